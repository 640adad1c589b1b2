/-
  Words and walks that these laws need beyond the others': see each theorem.
-/
import Derived.Test.YtioijfplbgpjpaaGreatKu00
import Derived.Test.YtioijfplbgpjpaaGreatKu01
import Derived.Test.YtioijfplbgpjpaaGreatKu02
import Derived.Test.YtioijfplbgpjpaaGreatKu43
import Derived.Test.YtioijfplbgpjpaaGreatKu03
import Derived.Test.YtioijfplbgpjpaaGreatKu04
import Derived.Test.YtioijfplbgpjpaaGreatKu05
import Derived.Test.YtioijfplbgpjpaaGreatKu06
import Derived.Test.YtioijfplbgpjpaaGreatKu09
import Derived.Test.YtioijfplbgpjpaaGreatKu22
import Derived.Test.YtioijfplbgpjpaaGreatKu24
import Derived.Test.YtioijfplbgpjpaaGreatKu25
import Derived.Test.YtioijfplbgpjpaaGreatKu10
import Derived.Test.YtioijfplbgpjpaaGreatKu11
import Derived.Test.YtioijfplbgpjpaaGreatKu26
import Derived.Test.YtioijfplbgpjpaaGreatKu29
import Derived.Test.YtioijfplbgpjpaaGreatKu27
import Derived.Test.YtioijfplbgpjpaaGreatKu28
import Derived.Test.YtioijfplbgpjpaaGreatKu30
import Derived.Test.YtioijfplbgpjpaaGreatKu31
import Derived.Test.YtioijfplbgpjpaaGreatKu33
import Derived.Test.YtioijfplbgpjpaaGreatKu35
import Derived.Test.YtioijfplbgpjpaaGreatKu23
import Derived.Test.YtioijfplbgpjpaaGreatKu32
import Derived.WalkKit
import Derived.WalkSpells
import Derived.WalkLawsBesides
import Derived.BigQuiet
import Derived.Deep.QuietTactic
import Derived.IntWalk
import Derived.Lib.Hide
import Derived.Laws.OwnMore
import Derived.Deep.Draws
import Derived.Deep.RegionHeld3
import Derived.Maps.AppendAt
import Derived.Deep.AppendLies
import Derived.RegionTactic
import Derived.OwnWalk
import Derived.ProofKit
import Derived.OpenShut
import Derived.ShutString
import Derived.WideKeyArgs
import Derived.Carry
import Derived.Deep.Slices
import Derived.Deep.Fields
import Derived.Deep.Strs
import Derived.ChangeSame
import Derived.Deep.Light
import Derived.Laws.StructEq
import Derived.Sort.OwnSortedInts
import Derived.StillTail
import Derived.Deep.RegionHeld
import Derived.Deep.RegionLaw
import Derived.Deep.DeepCutAuto
import Derived.Deep.RegionWith
import Derived.StillTailTactics
import Derived.Laws.CopyOwn
import Derived.Laws.IdiomStrings
import Derived.Lib.ItoaLen
import Derived.Lib.SmallJoins
import Derived.Laws.BytesString
namespace Go.Proofs.YtioijfplbgpjpaaGreat
set_option linter.unusedVariables false
set_option linter.unusedSimpArgs false
set_option maxRecDepth 100000
open Go.RowKit
theorem ret_str {a b:ByteArray} (h:a=b):Ending.returned (.string a)=.returned (.string b):=by rw [h]
section
variable {α:Type} {bd k:Nat} {R:World→Nat→List Value→α→Prop} {w w':World} {B B':Nat} {v:Value} {xs:List α}
end
def cS (s:ByteArray):List Value:=[.string s]
theorem Pre.step1 {α:Type} {f:α→List Value} {xs:List α} {k:Nat} {cs:List Value} {x:α} {u:Value} (h:Pre 1 f xs k cs) (hx:xs[k]? = some x) (hf:∀ y,(f y).length=1) (hu:f x=[u]):Pre 1 f xs (k + 1) (cs.set k u):=by
 have hk:k < cs.length:=by have:=h.1;have:=(List.getElem?_eq_some_iff.1 hx).1;omega
 refine h.step hx (by rw [hf x];omega) (by simp) (fun j w hj=>?_) (fun i hi=>?_) (fun y=>by rw [hf y];omega)
 ·rw [hu] at hj
  match j,hj with
  |0,hj=>simpa [hk] using hj
 ·rw [List.getElem?_set_ne (by omega)]
theorem setL_length:∀ (us cs:List Value) (o:Nat),(setL cs o us).length=cs.length
 |[],_,_=>rfl
 |u::us,cs,o=>by unfold setL;rw [setL_length];simp
theorem Pre.stepL {α:Type} {K:Nat} {f:α→List Value} {xs:List α} {k:Nat} {cs:List Value} {x:α} (h:Pre K f xs k cs) (hx:xs[k]? = some x) (hK:∀ y,(f y).length=K):Pre K f xs (k + 1) (setL cs (k * K) (f x)):=by
 have hk:=(List.getElem?_eq_some_iff.1 hx).1
 have hle:k * K + K≤cs.length:=by rw [h.1,← Nat.succ_mul];exact Nat.mul_le_mul_right _ hk
 have hg:=fun i=>setL_get (f x) cs (k * K) i (by rw [hK];exact hle)
 refine h.step hx (by rw [hK];exact Nat.le_refl _) (setL_length _ _ _) (fun j u hj=>?_) (fun i hi=>?_) (fun y=>by rw [hK];exact Nat.le_refl _)
 ·have:=(List.getElem?_eq_some_iff.1 hj).1
  rw [hg,if_pos (by omega),show k * K + j - k * K=j by omega,hj]
 ·rw [hg,if_neg (by omega)]
theorem own_below {w w':World} {base e size n B:Nat} {v:Value} {xs:List Value} (h:w.ownsRow base e size v n xs) (hb:Below B w w') (hB:∀ k,v.ownBlock=some k→k < B):w'.ownsRow base e size v n xs:=by
 refine ⟨h.1,?_⟩
 rcases h.2 with h2 | ⟨g,cap,cur,rfl,hg,hh,r⟩
 ·exact .inl h2
 ·exact .inr ⟨g,cap,cur,rfl,hg,(hb.block g (hB g rfl)).trans hh,r⟩
theorem own_room {w:World} {base e K g n cap:Nat} {xs:List Value} (h:w.ownsRow base e K (.slice (some ⟨g,0,none⟩) n cap) n xs) (i j:Nat) (hi:i < n) (hj:j < K):∃ old,w.cell? ⟨g,i * K + j,none⟩=some old:=by
 have hlt:i * K + j < n * K:=by
  have:(i + 1) * K≤n * K:=Nat.mul_le_mul_right _ hi
  rw [Nat.add_mul] at this
  omega
 rw [h.cellAt _ hlt]
 exact ⟨_,List.getElem?_eq_getElem (by rw [h.1];exact hlt)⟩
theorem own_room0 {w:World} {base e K g n cap:Nat} {xs:List Value} (h:w.ownsRow base e K (.slice (some ⟨g,0,none⟩) n cap) n xs) (i:Nat) (hi:i < n) (hK:0 < K):∃ old,w.cell? ⟨g,i * K,none⟩=some old:=own_room h i 0 hi hK
theorem wp_region_ext {P:Program} {id:Nat} {Q:Exit→Act→World→Prop} {a:Act} {w:World} {l:List Oper} (B:Nat) (hm:P.follows .mixedOrders=true) (hB:Region.lexB .any l.toArray=true)
  (h:wpQuiet P l.toArray (fun w'=>∃ x:Ext B w,w'=x.world) (fun a'=>∀ w',(∃ x:Ext B w,w'=x.world)→Q .normal a' w') l a):(Code.region id l.toArray true).wp P Q a w :=
 wp_region_quiet (C:=fun w'=>∃ x:Ext B w,w'=x.world) hm hB ⟨⟨w.drew,(Below.refl B w).drew⟩,rfl⟩ (by simpa using h)
end Go.Proofs.YtioijfplbgpjpaaGreat
namespace Go.Proofs.YtioijfplbgpjpaaGreat
set_option linter.unusedVariables false
set_option linter.unusedSimpArgs false
set_option maxRecDepth 100000
open Go.RowKit
section
variable {α:Type} {e K:Nat} {E:World→List Value→α→List Nat→Prop} {w w':World} {base:Nat} {v:Value} {xs:List α} {fp:List Nat} {k:Nat} {cs:List Value}
end
end Go.Proofs.YtioijfplbgpjpaaGreat
namespace Go.Proofs.YtioijfplbgpjpaaGreat
set_option linter.unusedVariables false
set_option linter.unusedSimpArgs false
set_option maxRecDepth 100000
open Go.RowKit
end Go.Proofs.YtioijfplbgpjpaaGreat
namespace Go.Proofs.YtioijfplbgpjpaaGreat
set_option linter.unusedVariables false
set_option linter.unusedSimpArgs false
set_option maxRecDepth 100000
open Go.RowKit
def szR (left total:Int):Int:=if left < total then -1 else left - total
theorem szR_ok {a b:Int} (h:0≤szR a b):b≤a:=by unfold szR at h;split at h <;> omega
theorem szR_eq {a b:Int} (h:0≤szR a b):szR a b=a - b:=by unfold szR at h ⊢;split at h <;> split <;> omega
theorem szR_neg {a b:Int} (h:szR a b < 0) (hb:0≤b):a < b:=by unfold szR at h;split at h <;> omega
set_option maxHeartbeats 400000 in
theorem szIntS_any (A:Option Addr) (n c:Nat) (left:Int) (w:World) (hn:n≤maxLen) (h0:0≤left) (h1:left≤1048576) :
  Calls Tryz.prog 238 #[.slice A n c,.int .i64 left] w fun e w'=>e=.returned (.int .i64 (szR left n))∧w=w':=by
 unfold maxLen at hn
 by_cases h:left < n
 ·have hr:szR left n = -1:=by unfold szR;rw [if_pos h]
  have HR:=Lib.hid hr
  clear hr
  go_enter Tryz.func238,Tryz.ntmps238
  go_wp2
  all_goals go_ret
  all_goals first | exact ⟨ret_int HR.out.symm,rfl⟩ | (exfalso;omega)
 ·have hr:szR left n=left - n:=by unfold szR;rw [if_neg h]
  have HR:=Lib.hid hr
  clear hr
  go_enter Tryz.func238,Tryz.ntmps238
  go_wp2
  all_goals go_ret
  all_goals first | exact ⟨ret_int HR.out.symm,rfl⟩ | (exfalso;omega)
set_option maxHeartbeats 400000 in
theorem toIntS_any (v:Value) (xs:List Int) (w:World) (h:RL 16777216 1 (flat cI) w w.heap.size v xs) :
  Calls Tryz.prog 240 #[v] w fun e w'=>∃ v',e=.returned v'∧w'.ownsRow w.heap.size 3 1 v' xs.length (xs.flatMap cI)∧Below w.heap.size w w':=by
 obtain ⟨i0,hi,hz0,hz1,hz2⟩:=info_parts info_int
 have h':=h
 obtain ⟨A,c,rfl,hbd,_⟩:=h
 have H:=Lib.hid h'
 clear h'
 go_enter Tryz.func240,Tryz.ntmps240
 go_wp2_with (at_make;refine wpList_make_full _ rfl _ _ 53 rfl w.heap.size 3 i0 _ 1 Tryz.underlying53 hi hz0 hz1 _ _ _ _ xs.length rfl rfl rfl rfl (by rw [hz2];omega) (by unfold maxLen;omega) (by simp) ?_;intro w1 hown hg)
 have hb1:Below w.heap.size w w1:=(Below.refl _ _).grown hg (Nat.le_refl _) (fun k hk=>by cases hk)
 clear hi hz0 hz1 hz2 hg
 go_loopw [4] (fun i wr=>∃ k:Nat,∃ cs,k≤xs.length∧i=.int .i64 k∧wr.ownsRow w.heap.size 3 1 (.slice (some ⟨w.heap.size,0,none⟩) xs.length xs.length) xs.length cs∧Pre 1 cI xs k cs∧Below w.heap.size w wr) (fun i _=>xs.length - (intOf i).toNat)
 case atStart=>exact ⟨0,_,Nat.zero_le _,rfl,hown,Pre.zero (by simp [size_madeCells]),hb1⟩
 case round =>
  obtain ⟨k,cs,hk,rfl,hown,hpre,hbl⟩:=hrel
  by_cases hlt:k < xs.length
  ·obtain ⟨b,off,x,_,rfl,hb,hx,_,rfl,hc⟩:=(H.out.below (flat_mono _) hbl).at_ k hlt
   have hc0:=hc 0 _ rfl
   have hg0:=hown.lt _ rfl
   clear hc
   simp only [Nat.add_zero,Nat.mul_one] at hc0
   have hf:=hown.frozenAt
   obtain ⟨o0,ho0⟩:=own_room0 hown k hlt (by omega)
   simp only [Nat.mul_one] at ho0
   go_wp2
   go_roundw
   case rel=>exact ⟨k + 1,_,hlt,by go_num,(hown.stored k _).1,hpre.step1 hx (fun _=>rfl) rfl,hbl.setCell (Nat.le_refl _) _⟩
   case measure=>simp [intOf];omega
  ·go_wp2
   go_ret
   obtain rfl:k=xs.length:=by omega
   rw [hpre.done (fun _=>rfl)] at hown
   exact ⟨_,rfl,hown,hbl⟩
set_option maxHeartbeats 400000 in
theorem eqIntS_any (v u:Value) (xs ys:List Int) (w:World) (h:RL 16777216 1 (flat cI) w w.heap.size v xs) (h2:RL 16777216 1 (flat cI) w w.heap.size u ys) :
  Calls Tryz.prog 31 #[v,u] w fun e w'=>e=.returned (.bool (decide (xs=ys)))∧Below w.heap.size w w':=by
 have h':=h
 obtain ⟨A,c,rfl,hbd,_⟩:=h
 have H:=Lib.hid h'
 clear h'
 have h':=h2
 obtain ⟨A2,c2,rfl,hbd2,_⟩:=h2
 have H2:=Lib.hid h'
 clear h'
 by_cases hl:xs.length=ys.length
 ·have hl0:((xs.length:Int) != (ys.length:Int))=false:=by simp [hl]
  have HL:=Lib.hid hl
  clear hl
  go_enter Tryz.func31,Tryz.ntmps31
  go_wp2
  go_loopw [5] (fun i wr=>∃ k:Nat,k≤xs.length∧i=.int .i64 k∧(∀ i,i < k→xs[i]? = ys[i]?)∧Below w.heap.size w wr) (fun i _=>xs.length - (intOf i).toNat)
  case atStart=>exact ⟨0,Nat.zero_le _,rfl,fun _ h=>by omega,Below.refl _ _⟩
  case round =>
   obtain ⟨k,hk,rfl,heq,hbl⟩:=hrel
   have HE:=Lib.hid heq
   clear heq
   by_cases hlt:k < xs.length
   ·obtain ⟨b,off,x,_,rfl,hb,hx,_,rfl,hc⟩:=(H.out.below (flat_mono _) hbl).at_ k hlt
    obtain ⟨b2,off2,y,_,rfl,hb2,hy,_,rfl,hc2⟩:=(H2.out.below (flat_mono _) hbl).at_ k (HL.out ▸ hlt)
    have hc0:=hc 0 _ rfl
    have hd0:=hc2 0 _ rfl
    simp only [Nat.add_zero,Nat.mul_one] at hc0 hd0
    have hlt2:k < ys.length:=HL.out ▸ hlt
    clear hc hc2
    by_cases hxy:x=y
    ·subst hxy
     have hdx:(x != x)=false:=by simp
     go_wp2
     go_quiet (fail)
     go_wp2
     go_roundw
     case rel=>exact ⟨k + 1,hlt,by go_num,eq_upto HE.out hx hy,below_drewN hbl _⟩
     case measure=>simp [intOf];omega
    ·have hne:=list_ne_of hx hy hxy
     have HN:=Lib.hid hne
     have hdx:(x != y)=true:=by simpa using hxy
     clear hne hxy
     go_wp2
     go_quiet (fail)
     go_wp2
     go_ret
     exact ⟨ret_bool (by simp [HN.out]),below_drewN hbl _⟩
   ·have heq:=list_eq_of HL.out (show k=xs.length by omega) HE.out
    have HN:=Lib.hid heq
    clear heq
    go_wp2
    go_ret
    exact ⟨ret_bool (by simp [HN.out]),hbl⟩
 ·have hl0:((xs.length:Int) != (ys.length:Int))=true:=by rw [bne_iff_ne];omega
  have hne:xs ≠ ys:=fun e=>hl (by rw [e])
  have HN:=Lib.hid hne
  clear hne hl
  go_enter Tryz.func31,Tryz.ntmps31
  go_wp2
  go_ret
  exact ⟨ret_bool (by simp [HN.out]),Below.refl _ _⟩
set_option maxHeartbeats 400000 in
theorem szSpotS_any (A:Option Addr) (n c:Nat) (left:Int) (w:World) (hn:n≤maxLen) (h0:0≤left) (h1:left≤1048576) :
  Calls Tryz.prog 88 #[.slice A n c,.int .i64 left] w fun e w'=>e=.returned (.int .i64 (szR left n))∧w=w':=by
 unfold maxLen at hn
 by_cases h:left < n
 ·have hr:szR left n = -1:=by unfold szR;rw [if_pos h]
  have HR:=Lib.hid hr
  clear hr
  go_enter Tryz.func88,Tryz.ntmps88
  go_wp2
  all_goals go_ret
  all_goals first | exact ⟨ret_int HR.out.symm,rfl⟩ | (exfalso;omega)
 ·have hr:szR left n=left - n:=by unfold szR;rw [if_neg h]
  have HR:=Lib.hid hr
  clear hr
  go_enter Tryz.func88,Tryz.ntmps88
  go_wp2
  all_goals go_ret
  all_goals first | exact ⟨ret_int HR.out.symm,rfl⟩ | (exfalso;omega)
set_option maxHeartbeats 400000 in
theorem toSpot_any (s:Spot) (w:World) :
  Calls Tryz.prog 173 #[s.val] w fun e w'=>e=.returned s.val∧Below w.heap.size w w':=by
 go_enter Tryz.func173,Tryz.ntmps173
 go_wp2
 exact bodyPost_ret (v:=s.val) (by simp [results,Tryz.results173,go_sem]) rfl ⟨rfl,(by repeat' with_reducible first | assumption | exact bR | apply bD | apply bA | apply bC | apply bN | simp <;> omega)⟩
set_option maxHeartbeats 400000 in
theorem eqSpot_any (s t:Spot) (w:World) :
  Calls Tryz.prog 178 #[s.val,t.val] w fun e w'=>e=.returned (.bool (decide (s=t)))∧Below w.heap.size w w':=by
 by_cases h:s=t
 ·subst h
  go_enter Tryz.func178,Tryz.ntmps178
  go_wp2
  go_ret
  exact ⟨ret_bool (by simp),(by repeat' with_reducible first | assumption | exact bR | apply bD | apply bA | apply bC | apply bN | simp <;> omega)⟩
 ·have hd:decide (s=t)=false:=by simp [h]
  have HD:=Lib.hid hd
  clear hd
  have H:=Lib.hid h
  clear h
  go_enter Tryz.func178,Tryz.ntmps178
  go_wp2
  all_goals go_ret
  all_goals first | exact ⟨ret_bool HD.out.symm,(by repeat' with_reducible first | assumption | exact bR | apply bD | apply bA | apply bC | apply bN | simp <;> omega)⟩ | skip
  exfalso
  apply H.out
  cases s;cases t;simp_all
set_option maxHeartbeats 400000 in
theorem toSpotS_any (v:Value) (xs:List Spot) (w:World) (h:RL 16777216 4 (flat Spot.cells) w w.heap.size v xs) :
  Calls Tryz.prog 97 #[v] w fun e w'=>∃ v',e=.returned v'∧w'.ownsRow w.heap.size 72 4 v' xs.length (xs.flatMap Spot.cells)∧Below w.heap.size w w':=by
 obtain ⟨i0,hi,hz0,hz1,hz2⟩:=info_parts info_Spot
 have h':=h
 obtain ⟨A,c,rfl,hbd,_⟩:=h
 have H:=Lib.hid h'
 clear h'
 go_enter Tryz.func97,Tryz.ntmps97
 go_wp2_with (at_make;refine wpList_make_full _ rfl _ _ 44 rfl w.heap.size 72 i0 _ 4 Tryz.underlying44 hi hz0 hz1 _ _ _ _ xs.length rfl rfl rfl rfl (by rw [hz2];omega) (by unfold maxLen;omega) (by simp) ?_;intro w1 hown hg)
 have hb1:Below w.heap.size w w1:=(Below.refl _ _).grown hg (Nat.le_refl _) (fun k hk=>by cases hk)
 clear hi hz0 hz1 hz2 hg
 go_loopw [4] (fun i wr=>∃ k:Nat,∃ cs,k≤xs.length∧i=.int .i64 k∧wr.ownsRow w.heap.size 72 4 (.slice (some ⟨w.heap.size,0,none⟩) xs.length xs.length) xs.length cs∧Pre 4 Spot.cells xs k cs∧Below w.heap.size w wr) (fun i _=>xs.length - (intOf i).toNat)
 case atStart=>exact ⟨0,_,Nat.zero_le _,rfl,hown,Pre.zero (by simp [size_madeCells]),hb1⟩
 case round =>
  obtain ⟨k,cs,hk,rfl,hown,hpre,hbl⟩:=hrel
  by_cases hlt:k < xs.length
  ·obtain ⟨b,off,x,_,rfl,hb,hx,_,rfl,hc⟩:=(H.out.below (flat_mono _) hbl).at_ k hlt
   have hc0:=hc 0 _ rfl
   have hc1:=hc 1 _ rfl
   have hc2:=hc 2 _ rfl
   have hc3:=hc 3 _ rfl
   have hg0:=hown.lt _ rfl
   clear hc
   simp only [Nat.add_zero] at hc0
   go_wp2_with (go_at_call 173;refine (toSpot_any x _).mono ?_;rintro e w2 ⟨rfl,hb2⟩;have hown2:=own_below hown hb2 (fun g hg=>(hown.lt g hg).2);clear hown;have hf:=hown2.frozenAt;obtain ⟨o0,ho0⟩:=own_room0 hown2 k hlt (by omega);obtain ⟨o1,ho1⟩:=own_room hown2 k 1 hlt (by omega);obtain ⟨o2,ho2⟩:=own_room hown2 k 2 hlt (by omega);obtain ⟨o3,ho3⟩:=own_room hown2 k 3 hlt (by omega))
   go_roundw
   case rel=>exact ⟨k + 1,_,hlt,by go_num,storedL x.cells cs w2 (k * 4) hown2,hpre.stepL hx (fun _=>rfl),Below.setW (Nat.le_refl _) x.cells w2 (k * 4) (hbl.trans (hb2.mono (Nat.le_of_lt hg0.2)))⟩
   case measure=>simp [intOf];omega
  ·go_wp2
   go_ret
   obtain rfl:k=xs.length:=by omega
   rw [hpre.done (fun _=>rfl)] at hown
   exact ⟨_,rfl,hown,hbl⟩
set_option maxHeartbeats 400000 in
theorem eqSpotS_any (v u:Value) (xs ys:List Spot) (w:World) (h:RL 16777216 4 (flat Spot.cells) w w.heap.size v xs) (h2:RL 16777216 4 (flat Spot.cells) w w.heap.size u ys) :
  Calls Tryz.prog 103 #[v,u] w fun e w'=>e=.returned (.bool (decide (xs=ys)))∧Below w.heap.size w w':=by
 have h':=h
 obtain ⟨A,c,rfl,hbd,_⟩:=h
 have H:=Lib.hid h'
 clear h'
 have h':=h2
 obtain ⟨A2,c2,rfl,hbd2,_⟩:=h2
 have H2:=Lib.hid h'
 clear h'
 by_cases hl:xs.length=ys.length
 ·have hl0:((xs.length:Int) != (ys.length:Int))=false:=by simp [hl]
  have HL:=Lib.hid hl
  clear hl
  go_enter Tryz.func103,Tryz.ntmps103
  go_wp2
  go_loopw [5] (fun i wr=>∃ k:Nat,k≤xs.length∧i=.int .i64 k∧(∀ i,i < k→xs[i]? = ys[i]?)∧Below w.heap.size w wr) (fun i _=>xs.length - (intOf i).toNat)
  case atStart=>exact ⟨0,Nat.zero_le _,rfl,fun _ h=>by omega,Below.refl _ _⟩
  case round =>
   obtain ⟨k,hk,rfl,heq,hbl⟩:=hrel
   have HE:=Lib.hid heq
   clear heq
   by_cases hlt:k < xs.length
   ·obtain ⟨b,off,x,_,rfl,hb,hx,_,rfl,hc⟩:=(H.out.below (flat_mono _) hbl).at_ k hlt
    obtain ⟨b2,off2,y,_,rfl,hb2,hy,_,rfl,hc2⟩:=(H2.out.below (flat_mono _) hbl).at_ k (HL.out ▸ hlt)
    have hsz:=hbl.size
    have hq0:=fun X:Ext wr.heap.size wr=>(X.cells (o:=off + k * 4) (Nat.lt_of_lt_of_le hb hsz)).trans (hc 0 _ rfl)
    have hq1:=fun X:Ext wr.heap.size wr=>(X.cells (o:=off + k * 4 + 1) (Nat.lt_of_lt_of_le hb hsz)).trans (hc 1 _ rfl)
    have hq2:=fun X:Ext wr.heap.size wr=>(X.cells (o:=off + k * 4 + 2) (Nat.lt_of_lt_of_le hb hsz)).trans (hc 2 _ rfl)
    have hq3:=fun X:Ext wr.heap.size wr=>(X.cells (o:=off + k * 4 + 3) (Nat.lt_of_lt_of_le hb hsz)).trans (hc 3 _ rfl)
    have hp0:=fun X:Ext wr.heap.size wr=>(X.cells (o:=off2 + k * 4) (Nat.lt_of_lt_of_le hb2 hsz)).trans (hc2 0 _ rfl)
    have hp1:=fun X:Ext wr.heap.size wr=>(X.cells (o:=off2 + k * 4 + 1) (Nat.lt_of_lt_of_le hb2 hsz)).trans (hc2 1 _ rfl)
    have hp2:=fun X:Ext wr.heap.size wr=>(X.cells (o:=off2 + k * 4 + 2) (Nat.lt_of_lt_of_le hb2 hsz)).trans (hc2 2 _ rfl)
    have hp3:=fun X:Ext wr.heap.size wr=>(X.cells (o:=off2 + k * 4 + 3) (Nat.lt_of_lt_of_le hb2 hsz)).trans (hc2 3 _ rfl)
    have hlt2:k < ys.length:=HL.out ▸ hlt
    clear hc hc2
    by_cases hxy:x=y
    ·subst hxy
     have hdx:decide (x=x)=true:=by simp
     go_wp2
     refine wp_region_ext wr.heap.size (by kernel_rfl) (by kernel_rfl) ?_
     repeat (go_big_quiet_step (exact ext_call (Nat.le_refl _) (eqSpot_any x x _)))
     refine wpQuiet_nil ?_
     intro _ hw'
     obtain ⟨X,rfl⟩:=hw'
     go_wp2
     go_roundw
     case rel=>exact ⟨k + 1,hlt,by go_num,eq_upto HE.out hx hy,hbl.trans (X.ok.mono hsz)⟩
     case measure=>simp [intOf];omega
    ·have hne:=list_ne_of hx hy hxy
     have HN:=Lib.hid hne
     have hdx:decide (x=y)=false:=by simp [hxy]
     clear hne hxy
     go_wp2
     refine wp_region_ext wr.heap.size (by kernel_rfl) (by kernel_rfl) ?_
     repeat (go_big_quiet_step (exact ext_call (Nat.le_refl _) (eqSpot_any x y _)))
     refine wpQuiet_nil ?_
     intro _ hw'
     obtain ⟨X,rfl⟩:=hw'
     go_wp2
     go_ret
     exact ⟨ret_bool (by simp [HN.out]),hbl.trans (X.ok.mono hsz)⟩
   ·have heq:=list_eq_of HL.out (show k=xs.length by omega) HE.out
    have HN:=Lib.hid heq
    clear heq
    go_wp2
    go_ret
    exact ⟨ret_bool (by simp [HN.out]),hbl⟩
 ·have hl0:((xs.length:Int) != (ys.length:Int))=true:=by rw [bne_iff_ne];omega
  have hne:xs ≠ ys:=fun e=>hl (by rw [e])
  have HN:=Lib.hid hne
  clear hne hl
  go_enter Tryz.func103,Tryz.ntmps103
  go_wp2
  go_ret
  exact ⟨ret_bool (by simp [HN.out]),Below.refl _ _⟩
set_option maxHeartbeats 400000 in
theorem szPairS_any (A:Option Addr) (n c:Nat) (left:Int) (w:World) (hn:n≤maxLen) (h0:0≤left) (h1:left≤1048576) :
  Calls Tryz.prog 84 #[.slice A n c,.int .i64 left] w fun e w'=>e=.returned (.int .i64 (szR left n))∧w=w':=by
 unfold maxLen at hn
 by_cases h:left < n
 ·have hr:szR left n = -1:=by unfold szR;rw [if_pos h]
  have HR:=Lib.hid hr
  clear hr
  go_enter Tryz.func84,Tryz.ntmps84
  go_wp2
  all_goals go_ret
  all_goals first | exact ⟨ret_int HR.out.symm,rfl⟩ | (exfalso;omega)
 ·have hr:szR left n=left - n:=by unfold szR;rw [if_neg h]
  have HR:=Lib.hid hr
  clear hr
  go_enter Tryz.func84,Tryz.ntmps84
  go_wp2
  all_goals go_ret
  all_goals first | exact ⟨ret_int HR.out.symm,rfl⟩ | (exfalso;omega)
set_option maxHeartbeats 400000 in
theorem toPair_any (s:Pair) (w:World) :
  Calls Tryz.prog 169 #[s.val] w fun e w'=>e=.returned s.val∧Below w.heap.size w w':=by
 go_enter Tryz.func169,Tryz.ntmps169
 go_wp2
 exact bodyPost_ret (v:=s.val) (by simp [results,Tryz.results169,go_sem]) rfl ⟨rfl,(by repeat' with_reducible first | assumption | exact bR | apply bD | apply bA | apply bC | apply bN | simp <;> omega)⟩
set_option maxHeartbeats 400000 in
theorem eqPair_any (s t:Pair) (w:World) :
  Calls Tryz.prog 174 #[s.val,t.val] w fun e w'=>e=.returned (.bool (decide (s=t)))∧Below w.heap.size w w':=by
 by_cases h:s=t
 ·subst h
  go_enter Tryz.func174,Tryz.ntmps174
  go_wp2
  go_ret
  exact ⟨ret_bool (by simp),(by repeat' with_reducible first | assumption | exact bR | apply bD | apply bA | apply bC | apply bN | simp <;> omega)⟩
 ·have hd:decide (s=t)=false:=by simp [h]
  have HD:=Lib.hid hd
  clear hd
  have H:=Lib.hid h
  clear h
  go_enter Tryz.func174,Tryz.ntmps174
  go_wp2
  all_goals go_ret
  all_goals first | exact ⟨ret_bool HD.out.symm,(by repeat' with_reducible first | assumption | exact bR | apply bD | apply bA | apply bC | apply bN | simp <;> omega)⟩ | skip
  exfalso
  apply H.out
  cases s;cases t;simp_all
set_option maxHeartbeats 400000 in
theorem toPairS_any (v:Value) (xs:List Pair) (w:World) (h:RL 16777216 2 (flat Pair.cells) w w.heap.size v xs) :
  Calls Tryz.prog 93 #[v] w fun e w'=>∃ v',e=.returned v'∧w'.ownsRow w.heap.size 165 2 v' xs.length (xs.flatMap Pair.cells)∧Below w.heap.size w w':=by
 obtain ⟨i0,hi,hz0,hz1,hz2⟩:=info_parts info_Pair
 have h':=h
 obtain ⟨A,c,rfl,hbd,_⟩:=h
 have H:=Lib.hid h'
 clear h'
 go_enter Tryz.func93,Tryz.ntmps93
 go_wp2_with (at_make;refine wpList_make_full _ rfl _ _ 37 rfl w.heap.size 165 i0 _ 2 Tryz.underlying37 hi hz0 hz1 _ _ _ _ xs.length rfl rfl rfl rfl (by rw [hz2];omega) (by unfold maxLen;omega) (by simp) ?_;intro w1 hown hg)
 have hb1:Below w.heap.size w w1:=(Below.refl _ _).grown hg (Nat.le_refl _) (fun k hk=>by cases hk)
 clear hi hz0 hz1 hz2 hg
 go_loopw [4] (fun i wr=>∃ k:Nat,∃ cs,k≤xs.length∧i=.int .i64 k∧wr.ownsRow w.heap.size 165 2 (.slice (some ⟨w.heap.size,0,none⟩) xs.length xs.length) xs.length cs∧Pre 2 Pair.cells xs k cs∧Below w.heap.size w wr) (fun i _=>xs.length - (intOf i).toNat)
 case atStart=>exact ⟨0,_,Nat.zero_le _,rfl,hown,Pre.zero (by simp [size_madeCells]),hb1⟩
 case round =>
  obtain ⟨k,cs,hk,rfl,hown,hpre,hbl⟩:=hrel
  by_cases hlt:k < xs.length
  ·obtain ⟨b,off,x,_,rfl,hb,hx,_,rfl,hc⟩:=(H.out.below (flat_mono _) hbl).at_ k hlt
   have hc0:=hc 0 _ rfl
   have hc1:=hc 1 _ rfl
   have hg0:=hown.lt _ rfl
   clear hc
   simp only [Nat.add_zero] at hc0
   go_wp2_with (go_at_call 169;refine (toPair_any x _).mono ?_;rintro e w2 ⟨rfl,hb2⟩;have hown2:=own_below hown hb2 (fun g hg=>(hown.lt g hg).2);clear hown;have hf:=hown2.frozenAt;obtain ⟨o0,ho0⟩:=own_room0 hown2 k hlt (by omega);obtain ⟨o1,ho1⟩:=own_room hown2 k 1 hlt (by omega))
   go_roundw
   case rel=>exact ⟨k + 1,_,hlt,by go_num,storedL x.cells cs w2 (k * 2) hown2,hpre.stepL hx (fun _=>rfl),Below.setW (Nat.le_refl _) x.cells w2 (k * 2) (hbl.trans (hb2.mono (Nat.le_of_lt hg0.2)))⟩
   case measure=>simp [intOf];omega
  ·go_wp2
   go_ret
   obtain rfl:k=xs.length:=by omega
   rw [hpre.done (fun _=>rfl)] at hown
   exact ⟨_,rfl,hown,hbl⟩
set_option maxHeartbeats 400000 in
theorem eqPairS_any (v u:Value) (xs ys:List Pair) (w:World) (h:RL 16777216 2 (flat Pair.cells) w w.heap.size v xs) (h2:RL 16777216 2 (flat Pair.cells) w w.heap.size u ys) :
  Calls Tryz.prog 99 #[v,u] w fun e w'=>e=.returned (.bool (decide (xs=ys)))∧Below w.heap.size w w':=by
 have h':=h
 obtain ⟨A,c,rfl,hbd,_⟩:=h
 have H:=Lib.hid h'
 clear h'
 have h':=h2
 obtain ⟨A2,c2,rfl,hbd2,_⟩:=h2
 have H2:=Lib.hid h'
 clear h'
 by_cases hl:xs.length=ys.length
 ·have hl0:((xs.length:Int) != (ys.length:Int))=false:=by simp [hl]
  have HL:=Lib.hid hl
  clear hl
  go_enter Tryz.func99,Tryz.ntmps99
  go_wp2
  go_loopw [5] (fun i wr=>∃ k:Nat,k≤xs.length∧i=.int .i64 k∧(∀ i,i < k→xs[i]? = ys[i]?)∧Below w.heap.size w wr) (fun i _=>xs.length - (intOf i).toNat)
  case atStart=>exact ⟨0,Nat.zero_le _,rfl,fun _ h=>by omega,Below.refl _ _⟩
  case round =>
   obtain ⟨k,hk,rfl,heq,hbl⟩:=hrel
   have HE:=Lib.hid heq
   clear heq
   by_cases hlt:k < xs.length
   ·obtain ⟨b,off,x,_,rfl,hb,hx,_,rfl,hc⟩:=(H.out.below (flat_mono _) hbl).at_ k hlt
    obtain ⟨b2,off2,y,_,rfl,hb2,hy,_,rfl,hc2⟩:=(H2.out.below (flat_mono _) hbl).at_ k (HL.out ▸ hlt)
    have hsz:=hbl.size
    have hq0:=fun X:Ext wr.heap.size wr=>(X.cells (o:=off + k * 2) (Nat.lt_of_lt_of_le hb hsz)).trans (hc 0 _ rfl)
    have hq1:=fun X:Ext wr.heap.size wr=>(X.cells (o:=off + k * 2 + 1) (Nat.lt_of_lt_of_le hb hsz)).trans (hc 1 _ rfl)
    have hp0:=fun X:Ext wr.heap.size wr=>(X.cells (o:=off2 + k * 2) (Nat.lt_of_lt_of_le hb2 hsz)).trans (hc2 0 _ rfl)
    have hp1:=fun X:Ext wr.heap.size wr=>(X.cells (o:=off2 + k * 2 + 1) (Nat.lt_of_lt_of_le hb2 hsz)).trans (hc2 1 _ rfl)
    have hlt2:k < ys.length:=HL.out ▸ hlt
    clear hc hc2
    by_cases hxy:x=y
    ·subst hxy
     have hdx:decide (x=x)=true:=by simp
     go_wp2
     refine wp_region_ext wr.heap.size (by kernel_rfl) (by kernel_rfl) ?_
     repeat (go_big_quiet_step (exact ext_call (Nat.le_refl _) (eqPair_any x x _)))
     refine wpQuiet_nil ?_
     intro _ hw'
     obtain ⟨X,rfl⟩:=hw'
     go_wp2
     go_roundw
     case rel=>exact ⟨k + 1,hlt,by go_num,eq_upto HE.out hx hy,hbl.trans (X.ok.mono hsz)⟩
     case measure=>simp [intOf];omega
    ·have hne:=list_ne_of hx hy hxy
     have HN:=Lib.hid hne
     have hdx:decide (x=y)=false:=by simp [hxy]
     clear hne hxy
     go_wp2
     refine wp_region_ext wr.heap.size (by kernel_rfl) (by kernel_rfl) ?_
     repeat (go_big_quiet_step (exact ext_call (Nat.le_refl _) (eqPair_any x y _)))
     refine wpQuiet_nil ?_
     intro _ hw'
     obtain ⟨X,rfl⟩:=hw'
     go_wp2
     go_ret
     exact ⟨ret_bool (by simp [HN.out]),hbl.trans (X.ok.mono hsz)⟩
   ·have heq:=list_eq_of HL.out (show k=xs.length by omega) HE.out
    have HN:=Lib.hid heq
    clear heq
    go_wp2
    go_ret
    exact ⟨ret_bool (by simp [HN.out]),hbl⟩
 ·have hl0:((xs.length:Int) != (ys.length:Int))=true:=by rw [bne_iff_ne];omega
  have hne:xs ≠ ys:=fun e=>hl (by rw [e])
  have HN:=Lib.hid hne
  clear hne hl
  go_enter Tryz.func99,Tryz.ntmps99
  go_wp2
  go_ret
  exact ⟨ret_bool (by simp [HN.out]),Below.refl _ _⟩
set_option maxHeartbeats 400000 in
theorem szTypeS_any (A:Option Addr) (n c:Nat) (left:Int) (w:World) (hn:n≤maxLen) (h0:0≤left) (h1:left≤1048576) :
  Calls Tryz.prog 85 #[.slice A n c,.int .i64 left] w fun e w'=>e=.returned (.int .i64 (szR left n))∧w=w':=by
 unfold maxLen at hn
 by_cases h:left < n
 ·have hr:szR left n = -1:=by unfold szR;rw [if_pos h]
  have HR:=Lib.hid hr
  clear hr
  go_enter Tryz.func85,Tryz.ntmps85
  go_wp2
  all_goals go_ret
  all_goals first | exact ⟨ret_int HR.out.symm,rfl⟩ | (exfalso;omega)
 ·have hr:szR left n=left - n:=by unfold szR;rw [if_neg h]
  have HR:=Lib.hid hr
  clear hr
  go_enter Tryz.func85,Tryz.ntmps85
  go_wp2
  all_goals go_ret
  all_goals first | exact ⟨ret_int HR.out.symm,rfl⟩ | (exfalso;omega)
set_option maxHeartbeats 400000 in
theorem toType_any (s:GType) (w:World) :
  Calls Tryz.prog 170 #[s.val] w fun e w'=>e=.returned s.val∧Below w.heap.size w w':=by
 go_enter Tryz.func170,Tryz.ntmps170
 go_wp2
 exact bodyPost_ret (v:=s.val) (by simp [results,Tryz.results170,go_sem]) rfl ⟨rfl,(by repeat' with_reducible first | assumption | exact bR | apply bD | apply bA | apply bC | apply bN | simp <;> omega)⟩
set_option maxHeartbeats 400000 in
theorem eqType_any (s t:GType) (w:World) :
  Calls Tryz.prog 175 #[s.val,t.val] w fun e w'=>e=.returned (.bool (decide (s=t)))∧Below w.heap.size w w':=by
 by_cases h:s=t
 ·subst h
  go_enter Tryz.func175,Tryz.ntmps175
  go_wp2
  go_ret
  exact ⟨ret_bool (by simp),(by repeat' with_reducible first | assumption | exact bR | apply bD | apply bA | apply bC | apply bN | simp <;> omega)⟩
 ·have hd:decide (s=t)=false:=by simp [h]
  have HD:=Lib.hid hd
  clear hd
  have H:=Lib.hid h
  clear h
  go_enter Tryz.func175,Tryz.ntmps175
  go_wp2
  all_goals go_ret
  all_goals first | exact ⟨ret_bool HD.out.symm,(by repeat' with_reducible first | assumption | exact bR | apply bD | apply bA | apply bC | apply bN | simp <;> omega)⟩ | skip
  exfalso
  apply H.out
  cases s;cases t;simp_all
set_option maxHeartbeats 400000 in
theorem toTypeS_any (v:Value) (xs:List GType) (w:World) (h:RL 16777216 7 (flat GType.cells) w w.heap.size v xs) :
  Calls Tryz.prog 94 #[v] w fun e w'=>∃ v',e=.returned v'∧w'.ownsRow w.heap.size 142 7 v' xs.length (xs.flatMap GType.cells)∧Below w.heap.size w w':=by
 obtain ⟨i0,hi,hz0,hz1,hz2⟩:=info_parts info_Type
 have h':=h
 obtain ⟨A,c,rfl,hbd,_⟩:=h
 have H:=Lib.hid h'
 clear h'
 go_enter Tryz.func94,Tryz.ntmps94
 go_wp2_with (at_make;refine wpList_make_full _ rfl _ _ 38 rfl w.heap.size 142 i0 _ 7 Tryz.underlying38 hi hz0 hz1 _ _ _ _ xs.length rfl rfl rfl rfl (by rw [hz2];omega) (by unfold maxLen;omega) (by simp) ?_;intro w1 hown hg)
 have hb1:Below w.heap.size w w1:=(Below.refl _ _).grown hg (Nat.le_refl _) (fun k hk=>by cases hk)
 clear hi hz0 hz1 hz2 hg
 go_loopw [4] (fun i wr=>∃ k:Nat,∃ cs,k≤xs.length∧i=.int .i64 k∧wr.ownsRow w.heap.size 142 7 (.slice (some ⟨w.heap.size,0,none⟩) xs.length xs.length) xs.length cs∧Pre 7 GType.cells xs k cs∧Below w.heap.size w wr) (fun i _=>xs.length - (intOf i).toNat)
 case atStart=>exact ⟨0,_,Nat.zero_le _,rfl,hown,Pre.zero (by simp [size_madeCells]),hb1⟩
 case round =>
  obtain ⟨k,cs,hk,rfl,hown,hpre,hbl⟩:=hrel
  by_cases hlt:k < xs.length
  ·obtain ⟨b,off,x,_,rfl,hb,hx,_,rfl,hc⟩:=(H.out.below (flat_mono _) hbl).at_ k hlt
   have hc0:=hc 0 _ rfl
   have hc1:=hc 1 _ rfl
   have hc2:=hc 2 _ rfl
   have hc3:=hc 3 _ rfl
   have hc4:=hc 4 _ rfl
   have hc5:=hc 5 _ rfl
   have hc6:=hc 6 _ rfl
   have hg0:=hown.lt _ rfl
   clear hc
   simp only [Nat.add_zero] at hc0
   go_wp2_with (go_at_call 170;refine (toType_any x _).mono ?_;rintro e w2 ⟨rfl,hb2⟩;have hown2:=own_below hown hb2 (fun g hg=>(hown.lt g hg).2);clear hown;have hf:=hown2.frozenAt;obtain ⟨o0,ho0⟩:=own_room0 hown2 k hlt (by omega);obtain ⟨o1,ho1⟩:=own_room hown2 k 1 hlt (by omega);obtain ⟨o2,ho2⟩:=own_room hown2 k 2 hlt (by omega);obtain ⟨o3,ho3⟩:=own_room hown2 k 3 hlt (by omega);obtain ⟨o4,ho4⟩:=own_room hown2 k 4 hlt (by omega);obtain ⟨o5,ho5⟩:=own_room hown2 k 5 hlt (by omega);obtain ⟨o6,ho6⟩:=own_room hown2 k 6 hlt (by omega))
   go_roundw
   case rel=>exact ⟨k + 1,_,hlt,by go_num,storedL x.cells cs w2 (k * 7) hown2,hpre.stepL hx (fun _=>rfl),Below.setW (Nat.le_refl _) x.cells w2 (k * 7) (hbl.trans (hb2.mono (Nat.le_of_lt hg0.2)))⟩
   case measure=>simp [intOf];omega
  ·go_wp2
   go_ret
   obtain rfl:k=xs.length:=by omega
   rw [hpre.done (fun _=>rfl)] at hown
   exact ⟨_,rfl,hown,hbl⟩
set_option maxHeartbeats 400000 in
theorem eqTypeS_any (v u:Value) (xs ys:List GType) (w:World) (h:RL 16777216 7 (flat GType.cells) w w.heap.size v xs) (h2:RL 16777216 7 (flat GType.cells) w w.heap.size u ys) :
  Calls Tryz.prog 100 #[v,u] w fun e w'=>e=.returned (.bool (decide (xs=ys)))∧Below w.heap.size w w':=by
 have h':=h
 obtain ⟨A,c,rfl,hbd,_⟩:=h
 have H:=Lib.hid h'
 clear h'
 have h':=h2
 obtain ⟨A2,c2,rfl,hbd2,_⟩:=h2
 have H2:=Lib.hid h'
 clear h'
 by_cases hl:xs.length=ys.length
 ·have hl0:((xs.length:Int) != (ys.length:Int))=false:=by simp [hl]
  have HL:=Lib.hid hl
  clear hl
  go_enter Tryz.func100,Tryz.ntmps100
  go_wp2
  go_loopw [5] (fun i wr=>∃ k:Nat,k≤xs.length∧i=.int .i64 k∧(∀ i,i < k→xs[i]? = ys[i]?)∧Below w.heap.size w wr) (fun i _=>xs.length - (intOf i).toNat)
  case atStart=>exact ⟨0,Nat.zero_le _,rfl,fun _ h=>by omega,Below.refl _ _⟩
  case round =>
   obtain ⟨k,hk,rfl,heq,hbl⟩:=hrel
   have HE:=Lib.hid heq
   clear heq
   by_cases hlt:k < xs.length
   ·obtain ⟨b,off,x,_,rfl,hb,hx,_,rfl,hc⟩:=(H.out.below (flat_mono _) hbl).at_ k hlt
    obtain ⟨b2,off2,y,_,rfl,hb2,hy,_,rfl,hc2⟩:=(H2.out.below (flat_mono _) hbl).at_ k (HL.out ▸ hlt)
    have hsz:=hbl.size
    have hq0:=fun X:Ext wr.heap.size wr=>(X.cells (o:=off + k * 7) (Nat.lt_of_lt_of_le hb hsz)).trans (hc 0 _ rfl)
    have hq1:=fun X:Ext wr.heap.size wr=>(X.cells (o:=off + k * 7 + 1) (Nat.lt_of_lt_of_le hb hsz)).trans (hc 1 _ rfl)
    have hq2:=fun X:Ext wr.heap.size wr=>(X.cells (o:=off + k * 7 + 2) (Nat.lt_of_lt_of_le hb hsz)).trans (hc 2 _ rfl)
    have hq3:=fun X:Ext wr.heap.size wr=>(X.cells (o:=off + k * 7 + 3) (Nat.lt_of_lt_of_le hb hsz)).trans (hc 3 _ rfl)
    have hq4:=fun X:Ext wr.heap.size wr=>(X.cells (o:=off + k * 7 + 4) (Nat.lt_of_lt_of_le hb hsz)).trans (hc 4 _ rfl)
    have hq5:=fun X:Ext wr.heap.size wr=>(X.cells (o:=off + k * 7 + 5) (Nat.lt_of_lt_of_le hb hsz)).trans (hc 5 _ rfl)
    have hq6:=fun X:Ext wr.heap.size wr=>(X.cells (o:=off + k * 7 + 6) (Nat.lt_of_lt_of_le hb hsz)).trans (hc 6 _ rfl)
    have hp0:=fun X:Ext wr.heap.size wr=>(X.cells (o:=off2 + k * 7) (Nat.lt_of_lt_of_le hb2 hsz)).trans (hc2 0 _ rfl)
    have hp1:=fun X:Ext wr.heap.size wr=>(X.cells (o:=off2 + k * 7 + 1) (Nat.lt_of_lt_of_le hb2 hsz)).trans (hc2 1 _ rfl)
    have hp2:=fun X:Ext wr.heap.size wr=>(X.cells (o:=off2 + k * 7 + 2) (Nat.lt_of_lt_of_le hb2 hsz)).trans (hc2 2 _ rfl)
    have hp3:=fun X:Ext wr.heap.size wr=>(X.cells (o:=off2 + k * 7 + 3) (Nat.lt_of_lt_of_le hb2 hsz)).trans (hc2 3 _ rfl)
    have hp4:=fun X:Ext wr.heap.size wr=>(X.cells (o:=off2 + k * 7 + 4) (Nat.lt_of_lt_of_le hb2 hsz)).trans (hc2 4 _ rfl)
    have hp5:=fun X:Ext wr.heap.size wr=>(X.cells (o:=off2 + k * 7 + 5) (Nat.lt_of_lt_of_le hb2 hsz)).trans (hc2 5 _ rfl)
    have hp6:=fun X:Ext wr.heap.size wr=>(X.cells (o:=off2 + k * 7 + 6) (Nat.lt_of_lt_of_le hb2 hsz)).trans (hc2 6 _ rfl)
    have hlt2:k < ys.length:=HL.out ▸ hlt
    clear hc hc2
    by_cases hxy:x=y
    ·subst hxy
     have hdx:decide (x=x)=true:=by simp
     go_wp2
     refine wp_region_ext wr.heap.size (by kernel_rfl) (by kernel_rfl) ?_
     repeat (go_big_quiet_step (exact ext_call (Nat.le_refl _) (eqType_any x x _)))
     refine wpQuiet_nil ?_
     intro _ hw'
     obtain ⟨X,rfl⟩:=hw'
     go_wp2
     go_roundw
     case rel=>exact ⟨k + 1,hlt,by go_num,eq_upto HE.out hx hy,hbl.trans (X.ok.mono hsz)⟩
     case measure=>simp [intOf];omega
    ·have hne:=list_ne_of hx hy hxy
     have HN:=Lib.hid hne
     have hdx:decide (x=y)=false:=by simp [hxy]
     clear hne hxy
     go_wp2
     refine wp_region_ext wr.heap.size (by kernel_rfl) (by kernel_rfl) ?_
     repeat (go_big_quiet_step (exact ext_call (Nat.le_refl _) (eqType_any x y _)))
     refine wpQuiet_nil ?_
     intro _ hw'
     obtain ⟨X,rfl⟩:=hw'
     go_wp2
     go_ret
     exact ⟨ret_bool (by simp [HN.out]),hbl.trans (X.ok.mono hsz)⟩
   ·have heq:=list_eq_of HL.out (show k=xs.length by omega) HE.out
    have HN:=Lib.hid heq
    clear heq
    go_wp2
    go_ret
    exact ⟨ret_bool (by simp [HN.out]),hbl⟩
 ·have hl0:((xs.length:Int) != (ys.length:Int))=true:=by rw [bne_iff_ne];omega
  have hne:xs ≠ ys:=fun e=>hl (by rw [e])
  have HN:=Lib.hid hne
  clear hne hl
  go_enter Tryz.func100,Tryz.ntmps100
  go_wp2
  go_ret
  exact ⟨ret_bool (by simp [HN.out]),Below.refl _ _⟩
set_option maxHeartbeats 400000 in
theorem szItemS_any (A:Option Addr) (n c:Nat) (left:Int) (w:World) (hn:n≤maxLen) (h0:0≤left) (h1:left≤1048576) :
  Calls Tryz.prog 86 #[.slice A n c,.int .i64 left] w fun e w'=>e=.returned (.int .i64 (szR left n))∧w=w':=by
 unfold maxLen at hn
 by_cases h:left < n
 ·have hr:szR left n = -1:=by unfold szR;rw [if_pos h]
  have HR:=Lib.hid hr
  clear hr
  go_enter Tryz.func86,Tryz.ntmps86
  go_wp2
  all_goals go_ret
  all_goals first | exact ⟨ret_int HR.out.symm,rfl⟩ | (exfalso;omega)
 ·have hr:szR left n=left - n:=by unfold szR;rw [if_neg h]
  have HR:=Lib.hid hr
  clear hr
  go_enter Tryz.func86,Tryz.ntmps86
  go_wp2
  all_goals go_ret
  all_goals first | exact ⟨ret_int HR.out.symm,rfl⟩ | (exfalso;omega)
set_option maxHeartbeats 400000 in
theorem toItem_any (s:Item) (w:World) :
  Calls Tryz.prog 171 #[s.val] w fun e w'=>e=.returned s.val∧Below w.heap.size w w':=by
 go_enter Tryz.func171,Tryz.ntmps171
 go_wp2
 exact bodyPost_ret (v:=s.val) (by simp [results,Tryz.results171,go_sem]) rfl ⟨rfl,(by repeat' with_reducible first | assumption | exact bR | apply bD | apply bA | apply bC | apply bN | simp <;> omega)⟩
set_option maxHeartbeats 400000 in
theorem eqItem_any (s t:Item) (w:World) :
  Calls Tryz.prog 176 #[s.val,t.val] w fun e w'=>e=.returned (.bool (decide (s=t)))∧Below w.heap.size w w':=by
 by_cases h:s=t
 ·subst h
  go_enter Tryz.func176,Tryz.ntmps176
  go_wp2
  go_ret
  exact ⟨ret_bool (by simp),(by repeat' with_reducible first | assumption | exact bR | apply bD | apply bA | apply bC | apply bN | simp <;> omega)⟩
 ·have hd:decide (s=t)=false:=by simp [h]
  have HD:=Lib.hid hd
  clear hd
  have H:=Lib.hid h
  clear h
  go_enter Tryz.func176,Tryz.ntmps176
  go_wp2
  all_goals go_ret
  all_goals first | exact ⟨ret_bool HD.out.symm,(by repeat' with_reducible first | assumption | exact bR | apply bD | apply bA | apply bC | apply bN | simp <;> omega)⟩ | skip
  exfalso
  apply H.out
  cases s;cases t;simp_all
set_option maxHeartbeats 400000 in
theorem toItemS_any (v:Value) (xs:List Item) (w:World) (h:RL 16777216 7 (flat Item.cells) w w.heap.size v xs) :
  Calls Tryz.prog 95 #[v] w fun e w'=>∃ v',e=.returned v'∧w'.ownsRow w.heap.size 152 7 v' xs.length (xs.flatMap Item.cells)∧Below w.heap.size w w':=by
 obtain ⟨i0,hi,hz0,hz1,hz2⟩:=info_parts info_Item
 have h':=h
 obtain ⟨A,c,rfl,hbd,_⟩:=h
 have H:=Lib.hid h'
 clear h'
 go_enter Tryz.func95,Tryz.ntmps95
 go_wp2_with (at_make;refine wpList_make_full _ rfl _ _ 39 rfl w.heap.size 152 i0 _ 7 Tryz.underlying39 hi hz0 hz1 _ _ _ _ xs.length rfl rfl rfl rfl (by rw [hz2];omega) (by unfold maxLen;omega) (by simp) ?_;intro w1 hown hg)
 have hb1:Below w.heap.size w w1:=(Below.refl _ _).grown hg (Nat.le_refl _) (fun k hk=>by cases hk)
 clear hi hz0 hz1 hz2 hg
 go_loopw [4] (fun i wr=>∃ k:Nat,∃ cs,k≤xs.length∧i=.int .i64 k∧wr.ownsRow w.heap.size 152 7 (.slice (some ⟨w.heap.size,0,none⟩) xs.length xs.length) xs.length cs∧Pre 7 Item.cells xs k cs∧Below w.heap.size w wr) (fun i _=>xs.length - (intOf i).toNat)
 case atStart=>exact ⟨0,_,Nat.zero_le _,rfl,hown,Pre.zero (by simp [size_madeCells]),hb1⟩
 case round =>
  obtain ⟨k,cs,hk,rfl,hown,hpre,hbl⟩:=hrel
  by_cases hlt:k < xs.length
  ·obtain ⟨b,off,x,_,rfl,hb,hx,_,rfl,hc⟩:=(H.out.below (flat_mono _) hbl).at_ k hlt
   have hc0:=hc 0 _ rfl
   have hc1:=hc 1 _ rfl
   have hc2:=hc 2 _ rfl
   have hc3:=hc 3 _ rfl
   have hc4:=hc 4 _ rfl
   have hc5:=hc 5 _ rfl
   have hc6:=hc 6 _ rfl
   have hg0:=hown.lt _ rfl
   clear hc
   simp only [Nat.add_zero] at hc0
   go_wp2_with (go_at_call 171;refine (toItem_any x _).mono ?_;rintro e w2 ⟨rfl,hb2⟩;have hown2:=own_below hown hb2 (fun g hg=>(hown.lt g hg).2);clear hown;have hf:=hown2.frozenAt;obtain ⟨o0,ho0⟩:=own_room0 hown2 k hlt (by omega);obtain ⟨o1,ho1⟩:=own_room hown2 k 1 hlt (by omega);obtain ⟨o2,ho2⟩:=own_room hown2 k 2 hlt (by omega);obtain ⟨o3,ho3⟩:=own_room hown2 k 3 hlt (by omega);obtain ⟨o4,ho4⟩:=own_room hown2 k 4 hlt (by omega);obtain ⟨o5,ho5⟩:=own_room hown2 k 5 hlt (by omega);obtain ⟨o6,ho6⟩:=own_room hown2 k 6 hlt (by omega))
   go_roundw
   case rel=>exact ⟨k + 1,_,hlt,by go_num,storedL x.cells cs w2 (k * 7) hown2,hpre.stepL hx (fun _=>rfl),Below.setW (Nat.le_refl _) x.cells w2 (k * 7) (hbl.trans (hb2.mono (Nat.le_of_lt hg0.2)))⟩
   case measure=>simp [intOf];omega
  ·go_wp2
   go_ret
   obtain rfl:k=xs.length:=by omega
   rw [hpre.done (fun _=>rfl)] at hown
   exact ⟨_,rfl,hown,hbl⟩
set_option maxHeartbeats 400000 in
theorem eqItemS_any (v u:Value) (xs ys:List Item) (w:World) (h:RL 16777216 7 (flat Item.cells) w w.heap.size v xs) (h2:RL 16777216 7 (flat Item.cells) w w.heap.size u ys) :
  Calls Tryz.prog 101 #[v,u] w fun e w'=>e=.returned (.bool (decide (xs=ys)))∧Below w.heap.size w w':=by
 have h':=h
 obtain ⟨A,c,rfl,hbd,_⟩:=h
 have H:=Lib.hid h'
 clear h'
 have h':=h2
 obtain ⟨A2,c2,rfl,hbd2,_⟩:=h2
 have H2:=Lib.hid h'
 clear h'
 by_cases hl:xs.length=ys.length
 ·have hl0:((xs.length:Int) != (ys.length:Int))=false:=by simp [hl]
  have HL:=Lib.hid hl
  clear hl
  go_enter Tryz.func101,Tryz.ntmps101
  go_wp2
  go_loopw [5] (fun i wr=>∃ k:Nat,k≤xs.length∧i=.int .i64 k∧(∀ i,i < k→xs[i]? = ys[i]?)∧Below w.heap.size w wr) (fun i _=>xs.length - (intOf i).toNat)
  case atStart=>exact ⟨0,Nat.zero_le _,rfl,fun _ h=>by omega,Below.refl _ _⟩
  case round =>
   obtain ⟨k,hk,rfl,heq,hbl⟩:=hrel
   have HE:=Lib.hid heq
   clear heq
   by_cases hlt:k < xs.length
   ·obtain ⟨b,off,x,_,rfl,hb,hx,_,rfl,hc⟩:=(H.out.below (flat_mono _) hbl).at_ k hlt
    obtain ⟨b2,off2,y,_,rfl,hb2,hy,_,rfl,hc2⟩:=(H2.out.below (flat_mono _) hbl).at_ k (HL.out ▸ hlt)
    have hsz:=hbl.size
    have hq0:=fun X:Ext wr.heap.size wr=>(X.cells (o:=off + k * 7) (Nat.lt_of_lt_of_le hb hsz)).trans (hc 0 _ rfl)
    have hq1:=fun X:Ext wr.heap.size wr=>(X.cells (o:=off + k * 7 + 1) (Nat.lt_of_lt_of_le hb hsz)).trans (hc 1 _ rfl)
    have hq2:=fun X:Ext wr.heap.size wr=>(X.cells (o:=off + k * 7 + 2) (Nat.lt_of_lt_of_le hb hsz)).trans (hc 2 _ rfl)
    have hq3:=fun X:Ext wr.heap.size wr=>(X.cells (o:=off + k * 7 + 3) (Nat.lt_of_lt_of_le hb hsz)).trans (hc 3 _ rfl)
    have hq4:=fun X:Ext wr.heap.size wr=>(X.cells (o:=off + k * 7 + 4) (Nat.lt_of_lt_of_le hb hsz)).trans (hc 4 _ rfl)
    have hq5:=fun X:Ext wr.heap.size wr=>(X.cells (o:=off + k * 7 + 5) (Nat.lt_of_lt_of_le hb hsz)).trans (hc 5 _ rfl)
    have hq6:=fun X:Ext wr.heap.size wr=>(X.cells (o:=off + k * 7 + 6) (Nat.lt_of_lt_of_le hb hsz)).trans (hc 6 _ rfl)
    have hp0:=fun X:Ext wr.heap.size wr=>(X.cells (o:=off2 + k * 7) (Nat.lt_of_lt_of_le hb2 hsz)).trans (hc2 0 _ rfl)
    have hp1:=fun X:Ext wr.heap.size wr=>(X.cells (o:=off2 + k * 7 + 1) (Nat.lt_of_lt_of_le hb2 hsz)).trans (hc2 1 _ rfl)
    have hp2:=fun X:Ext wr.heap.size wr=>(X.cells (o:=off2 + k * 7 + 2) (Nat.lt_of_lt_of_le hb2 hsz)).trans (hc2 2 _ rfl)
    have hp3:=fun X:Ext wr.heap.size wr=>(X.cells (o:=off2 + k * 7 + 3) (Nat.lt_of_lt_of_le hb2 hsz)).trans (hc2 3 _ rfl)
    have hp4:=fun X:Ext wr.heap.size wr=>(X.cells (o:=off2 + k * 7 + 4) (Nat.lt_of_lt_of_le hb2 hsz)).trans (hc2 4 _ rfl)
    have hp5:=fun X:Ext wr.heap.size wr=>(X.cells (o:=off2 + k * 7 + 5) (Nat.lt_of_lt_of_le hb2 hsz)).trans (hc2 5 _ rfl)
    have hp6:=fun X:Ext wr.heap.size wr=>(X.cells (o:=off2 + k * 7 + 6) (Nat.lt_of_lt_of_le hb2 hsz)).trans (hc2 6 _ rfl)
    have hlt2:k < ys.length:=HL.out ▸ hlt
    clear hc hc2
    by_cases hxy:x=y
    ·subst hxy
     have hdx:decide (x=x)=true:=by simp
     go_wp2
     refine wp_region_ext wr.heap.size (by kernel_rfl) (by kernel_rfl) ?_
     repeat (go_big_quiet_step (exact ext_call (Nat.le_refl _) (eqItem_any x x _)))
     refine wpQuiet_nil ?_
     intro _ hw'
     obtain ⟨X,rfl⟩:=hw'
     go_wp2
     go_roundw
     case rel=>exact ⟨k + 1,hlt,by go_num,eq_upto HE.out hx hy,hbl.trans (X.ok.mono hsz)⟩
     case measure=>simp [intOf];omega
    ·have hne:=list_ne_of hx hy hxy
     have HN:=Lib.hid hne
     have hdx:decide (x=y)=false:=by simp [hxy]
     clear hne hxy
     go_wp2
     refine wp_region_ext wr.heap.size (by kernel_rfl) (by kernel_rfl) ?_
     repeat (go_big_quiet_step (exact ext_call (Nat.le_refl _) (eqItem_any x y _)))
     refine wpQuiet_nil ?_
     intro _ hw'
     obtain ⟨X,rfl⟩:=hw'
     go_wp2
     go_ret
     exact ⟨ret_bool (by simp [HN.out]),hbl.trans (X.ok.mono hsz)⟩
   ·have heq:=list_eq_of HL.out (show k=xs.length by omega) HE.out
    have HN:=Lib.hid heq
    clear heq
    go_wp2
    go_ret
    exact ⟨ret_bool (by simp [HN.out]),hbl⟩
 ·have hl0:((xs.length:Int) != (ys.length:Int))=true:=by rw [bne_iff_ne];omega
  have hne:xs ≠ ys:=fun e=>hl (by rw [e])
  have HN:=Lib.hid hne
  clear hne hl
  go_enter Tryz.func101,Tryz.ntmps101
  go_wp2
  go_ret
  exact ⟨ret_bool (by simp [HN.out]),Below.refl _ _⟩
set_option maxHeartbeats 400000 in
theorem toPallet_any (s:Pallet) (w:World) :
  Calls Tryz.prog 92 #[s.val] w fun e w'=>e=.returned s.val∧Below w.heap.size w w':=by
 go_enter Tryz.func92,Tryz.ntmps92
 go_wp2
 exact bodyPost_ret (v:=s.val) (by simp [results,Tryz.results92,go_sem]) rfl ⟨rfl,(by repeat' with_reducible first | assumption | exact bR | apply bD | apply bA | apply bC | apply bN | simp <;> omega)⟩
set_option maxHeartbeats 400000 in
theorem eqPallet_any (s t:Pallet) (w:World) :
  Calls Tryz.prog 98 #[s.val,t.val] w fun e w'=>e=.returned (.bool (decide (s=t)))∧Below w.heap.size w w':=by
 by_cases h:s=t
 ·subst h
  go_enter Tryz.func98,Tryz.ntmps98
  go_wp2
  go_ret
  exact ⟨ret_bool (by simp),(by repeat' with_reducible first | assumption | exact bR | apply bD | apply bA | apply bC | apply bN | simp <;> omega)⟩
 ·have hd:decide (s=t)=false:=by simp [h]
  have HD:=Lib.hid hd
  clear hd
  have H:=Lib.hid h
  clear h
  go_enter Tryz.func98,Tryz.ntmps98
  go_wp2
  all_goals go_ret
  all_goals first | exact ⟨ret_bool HD.out.symm,(by repeat' with_reducible first | assumption | exact bR | apply bD | apply bA | apply bC | apply bN | simp <;> omega)⟩ | skip
  exfalso
  apply H.out
  cases s;cases t;simp_all
theorem info_str:(Tryz.prog.info? 9).map (fun i=>(i.zero,i.size,i.bytes))=some (some (.string ByteArray.empty),1,16):=by kernel_rfl
theorem bytes_ext' {a b:ByteArray} (h:a.data.toList=b.data.toList):a=b:=by
 cases a;cases b;congr 1;exact Array.toList_inj.1 h
theorem toList_data:∀ (a:ByteArray),a.toList=a.data.toList:=fun a=>Go.ByteArray.toList_eq a
theorem bytes_ext {a b:ByteArray} (h:a.toList=b.toList):a=b:=bytes_ext' (by rw [← toList_data,← toList_data,h])
set_option maxHeartbeats 400000 in
theorem eqStringS_any (v u:Value) (xs ys:List ByteArray) (w:World) (h:RL 16777216 1 (flat cS) w w.heap.size v xs) (h2:RL 16777216 1 (flat cS) w w.heap.size u ys) :
  Calls Tryz.prog 40 #[v,u] w fun e w'=>e=.returned (.bool (decide (xs=ys)))∧Below w.heap.size w w':=by
 have h':=h
 obtain ⟨A,c,rfl,hbd,_⟩:=h
 have H:=Lib.hid h'
 clear h'
 have h':=h2
 obtain ⟨A2,c2,rfl,hbd2,_⟩:=h2
 have H2:=Lib.hid h'
 clear h'
 by_cases hl:xs.length=ys.length
 ·have hl0:((xs.length:Int) != (ys.length:Int))=false:=by simp [hl]
  have HL:=Lib.hid hl
  clear hl
  go_enter Tryz.func40,Tryz.ntmps40
  go_wp2
  go_loopw [5] (fun i wr=>∃ k:Nat,k≤xs.length∧i=.int .i64 k∧(∀ i,i < k→xs[i]? = ys[i]?)∧Below w.heap.size w wr) (fun i _=>xs.length - (intOf i).toNat)
  case atStart=>exact ⟨0,Nat.zero_le _,rfl,fun _ h=>by omega,Below.refl _ _⟩
  case round =>
   obtain ⟨k,hk,rfl,heq,hbl⟩:=hrel
   have HE:=Lib.hid heq
   clear heq
   by_cases hlt:k < xs.length
   ·obtain ⟨b,off,x,_,rfl,hb,hx,_,rfl,hc⟩:=(H.out.below (flat_mono _) hbl).at_ k hlt
    obtain ⟨b2,off2,y,_,rfl,hb2,hy,_,rfl,hc2⟩:=(H2.out.below (flat_mono _) hbl).at_ k (HL.out ▸ hlt)
    have hc0:=hc 0 _ rfl
    have hd0:=hc2 0 _ rfl
    simp only [Nat.add_zero,Nat.mul_one] at hc0 hd0
    have hlt2:k < ys.length:=HL.out ▸ hlt
    clear hc hc2
    by_cases hxy:x=y
    ·subst hxy
     go_wp2
     go_quiet (fail)
     go_wp2
     go_roundw
     case rel=>exact ⟨k + 1,hlt,by go_num,eq_upto HE.out hx hy,below_drewN hbl _⟩
     case measure=>simp [intOf];omega
    ·have hne:=list_ne_of hx hy hxy
     have HN:=Lib.hid hne
     have hdx:(x.toList == y.toList)=false:=by simpa using fun e=>hxy (bytes_ext e)
     have hdx2:(x.data.toList == y.data.toList)=false:=by simpa using fun e=>hxy (bytes_ext' e)
     clear hne hxy
     go_wp2
     go_quiet (fail)
     go_wp2
     go_ret
     exact ⟨ret_bool (by simp [HN.out]),below_drewN hbl _⟩
   ·have heq:=list_eq_of HL.out (show k=xs.length by omega) HE.out
    have HN:=Lib.hid heq
    clear heq
    go_wp2
    go_ret
    exact ⟨ret_bool (by simp [HN.out]),hbl⟩
 ·have hl0:((xs.length:Int) != (ys.length:Int))=true:=by rw [bne_iff_ne];omega
  have hne:xs ≠ ys:=fun e=>hl (by rw [e])
  have HN:=Lib.hid hne
  clear hne hl
  go_enter Tryz.func40,Tryz.ntmps40
  go_wp2
  go_ret
  exact ⟨ret_bool (by simp [HN.out]),Below.refl _ _⟩
end Go.Proofs.YtioijfplbgpjpaaGreat
namespace Go.Proofs.YtioijfplbgpjpaaGreat
set_option linter.unusedVariables false
set_option linter.unusedSimpArgs false
set_option maxRecDepth 100000
open Go.RowKit
theorem tot_all {α:Type} (f:α→Nat) {xs:List α} {k:Nat} (h:xs.length≤k):tot f (xs.take k)=tot f xs:=by rw [List.take_of_length_le h]
end Go.Proofs.YtioijfplbgpjpaaGreat
namespace Go.Proofs.YtioijfplbgpjpaaGreat
set_option linter.unusedVariables false
set_option linter.unusedSimpArgs false
set_option maxRecDepth 100000
open Go.RowKit
set_option maxHeartbeats 400000 in
theorem szCarton_any (a b:Int) (A:Option Addr) (n c:Nat) (left:Int) (w:World) (hn:n≤maxLen) (h0:0≤left) (h1:left≤1048576) :
  Calls Tryz.prog 166 #[.agg #[.int .i64 a,.int .i64 b,.slice A n c],.int .i64 left] w fun e w'=>e=.returned (.int .i64 (szR left n))∧Below w.heap.size w w':=by
 have hz:=fun W=>szIntS_any A n c left W hn h0 h1
 obtain ⟨t,ht⟩:∃ t,szR left n=t:=⟨_,rfl⟩
 rw [ht] at hz ⊢
 have HZ:=Lib.hid hz
 have hneg:t < 0→t = -1:=by intro h;unfold szR at ht;split at ht <;> omega
 have HN:=Lib.hid hneg
 clear hz ht hneg
 by_cases h:t < 0
 ·go_enter Tryz.func166,Tryz.ntmps166
  go_wp2_with (go_at_call 238;refine (HZ.out _).mono ?_;rintro e w' ⟨rfl,rfl⟩)
  go_ret
  exact ⟨ret_int (HN.out h).symm,(by repeat' with_reducible first | assumption | exact bR | apply bD | apply bA | apply bC | apply bN | simp <;> omega)⟩
 ·go_enter Tryz.func166,Tryz.ntmps166
  go_wp2_with (go_at_call 238;refine (HZ.out _).mono ?_;rintro e w' ⟨rfl,rfl⟩)
  go_ret
  exact ⟨rfl,(by repeat' with_reducible first | assumption | exact bR | apply bD | apply bA | apply bC | apply bN | simp <;> omega)⟩
set_option maxHeartbeats 400000 in
theorem szCartonS_any (v:Value) (xs:List Carton) (left:Int) (w:World) (h:RCartons 9223372036854775807 w w.heap.size v xs) (h0:0≤left) (h1:left≤1048576) :
  Calls Tryz.prog 87 #[v,.int .i64 left] w fun e w'=>e=.returned (.int .i64 (szR left ((xs.length + tot (fun c=>c.units.length) xs:Nat):Int)))∧Below w.heap.size w w':=by
 have h':=h
 obtain ⟨A,c,rfl,hbd,_⟩:=h
 have H:=Lib.hid h'
 clear h'
 obtain ⟨T,hT⟩:∃ T,T=tot (fun c:Carton=>c.units.length) xs:=⟨_,rfl⟩
 rw [← hT]
 have HT:=Lib.hid hT
 clear hT
 by_cases hn:left < xs.length
 ·have hr:szR left ((xs.length + T:Nat):Int) = -1:=by unfold szR;rw [if_pos (by omega)]
  have HR:=Lib.hid hr
  clear hr
  go_enter Tryz.func87,Tryz.ntmps87
  go_wp2
  all_goals go_ret
  all_goals first | exact ⟨ret_int HR.out.symm,Below.refl _ _⟩ | (exfalso;omega)
 ·have hd0:decide (left - (xs.length:Int) < 0)=false:=by simp;omega
  have hl:xs.length≤1048576:=by omega
  go_enter Tryz.func87,Tryz.ntmps87
  go_wp2
  go_loopw [1,5] (fun l i wr=>∃ k:Nat,∃ m:Int,k≤xs.length∧0≤m∧m≤1048576∧i=.int .i64 k∧l=.int .i64 m∧m=left - xs.length - ((tot (fun c:Carton=>c.units.length) (xs.take k):Nat):Int)∧Below w.heap.size w wr) (fun _ i _=>xs.length - (intOf i).toNat)
  case atStart=>exact ⟨0,_,Nat.zero_le _,by omega,by omega,rfl,rfl,by simp [tot],Below.refl _ _⟩
  case round =>
   obtain ⟨k,m,hk,hm0,hm1,rfl,rfl,hm,hbl⟩:=hrel
   have HM:=Lib.hid hm
   clear hm
   by_cases hlt:k < xs.length
   ·obtain ⟨b,off,s,_,rfl,hb,hx,_,⟨vu,rfl,Au,cu,rfl,hun,_⟩,hc⟩:=(H.out.below (RCarton_mono _) hbl).at_ k hlt
    have hc0:=hc 0 _ rfl
    have hc1:=hc 1 _ rfl
    have hc2:=hc 2 _ rfl
    simp only [Nat.add_zero] at hc0
    clear hc
    have hz:=fun W=>szCarton_any s.type s.group Au s.units.length cu m W (by unfold maxLen;omega) hm0 hm1
    have hge:=tot_ge (fun c:Carton=>c.units.length) hx
    obtain ⟨t,ht⟩:∃ t,szR m s.units.length=t:=⟨_,rfl⟩
    rw [ht] at hz
    have HZ:=Lib.hid hz
    have HX:=Lib.hid ht
    have HG:=Lib.hid hge
    clear hz ht hge
    by_cases hneg:t < 0
    ·have hr:szR left ((xs.length + T:Nat):Int) = -1:=by
      have:=HM.out
      have h3:=szR_neg (show szR m s.units.length < 0 by rw [HX.out];exact hneg) (by omega)
      have h4:=HG.out
      rw [← HT.out] at h4
      unfold szR;rw [if_pos (by omega)]
     have HR:=Lib.hid hr
     clear hr
     go_wp2_with (go_at_call 166;refine (HZ.out _).mono ?_;rintro e w2 ⟨rfl,hb2⟩)
     go_ret
     exact ⟨ret_int HR.out.symm,hbl.trans (hb2.mono hbl.size)⟩
    ·have hm2:t=m - s.units.length:=by
      have:=szR_eq (show 0≤szR m s.units.length by rw [HX.out];omega)
      rw [HX.out] at this
      exact this
     have HM2:=Lib.hid hm2
     have hm3:t≤1048576:=by omega
     clear hm2
     go_wp2_with (go_at_call 166;refine (HZ.out _).mono ?_;rintro e w2 ⟨rfl,hb2⟩)
     go_roundw
     case rel=>exact ⟨k + 1,t,by omega,by omega,by omega,by go_num,rfl,by have h5:=HM.out;have h6:=HM2.out;rw [tot_take _ hx];omega,hbl.trans (hb2.mono hbl.size)⟩
     case measure=>simp [intOf];omega
   ·have hr:szR left ((xs.length + T:Nat):Int)=m:=by
     have:=HM.out
     rw [tot_all _ (by omega),← HT.out] at this
     unfold szR;rw [if_neg (by omega)];omega
    have HR:=Lib.hid hr
    clear hr
    go_wp2
    go_ret
    exact ⟨ret_int HR.out.symm,hbl⟩
set_option maxHeartbeats 400000 in
theorem szPlan_any (v:Value) (p:Plan) (left:Int) (w:World) (h:RPlan 9223372036854775807 w w.heap.size v p) (h0:0≤left) (h1:left≤1048576) :
  Calls Tryz.prog 20 #[v,.int .i64 left] w fun e w'=>e=.returned (.int .i64 (szR left (p.bulk:Nat)))∧Below w.heap.size w w':=by
 obtain ⟨v1,v2,rfl,hc,A,c,rfl,hsn,_⟩:=h
 have hz:=fun (W:World) (hW:RCartons 9223372036854775807 W W.heap.size v1 p.cartons)=>szCartonS_any v1 p.cartons left W hW h0 h1
 obtain ⟨t,ht⟩:∃ t,szR left ((p.cartons.length + tot (fun c=>c.units.length) p.cartons:Nat):Int)=t:=⟨_,rfl⟩
 rw [ht] at hz
 have HZ:=Lib.hid hz
 have HX:=Lib.hid ht
 have HC:=Lib.hid hc
 clear hz ht hc
 by_cases hneg:t < 0
 ·have hr:szR left (p.bulk:Nat) = -1:=by
   have h3:=szR_neg (show szR left ((p.cartons.length + tot (fun c=>c.units.length) p.cartons:Nat):Int) < 0 by rw [HX.out];exact hneg) (by omega)
   unfold szR Plan.bulk;rw [if_pos (by omega)]
  have HR:=Lib.hid hr
  clear hr
  go_enter Tryz.func20,Tryz.ntmps20
  go_wp2_with fail
  refine (HZ.out _ ((HC.out.below (RCarton_mono _) ((Below.refl _ _).alloc (Nat.le_refl _) _)).more (RCarton_mono _) (by simp))).mono ?_
  rintro e w2 ⟨rfl,hb2⟩
  go_wp2
  go_ret
  exact ⟨ret_int HR.out.symm,bstep ((Below.refl _ _).alloc (Nat.le_refl _) _) hb2⟩
 ·have hm2:t=left - ((p.cartons.length + tot (fun c=>c.units.length) p.cartons:Nat):Int):=by
   have:=szR_eq (show 0≤szR left ((p.cartons.length + tot (fun c=>c.units.length) p.cartons:Nat):Int) by rw [HX.out];omega)
   rw [HX.out] at this
   exact this
  have hm3:t≤1048576:=by omega
  have hz2:=fun (W:World)=>szSpotS_any A p.spots.length c t W (by unfold maxLen;omega) (by omega) hm3
  obtain ⟨t2,ht2⟩:∃ t2,szR t p.spots.length=t2:=⟨_,rfl⟩
  have hr:szR left (p.bulk:Nat)=t2:=by
   rw [← ht2]
   unfold szR Plan.bulk
   split <;> split <;> omega
  have hn2:t2 < 0→t2 = -1:=by intro h;unfold szR at ht2;split at ht2 <;> omega
  rw [ht2] at hz2
  have HZ2:=Lib.hid hz2
  have HR:=Lib.hid hr
  have HN2:=Lib.hid hn2
  clear hz2 hr hn2 ht2 hm2
  have hd1:decide (t < 0)=false:=by simpa using hneg
  by_cases hneg2:t2 < 0
  ·go_enter Tryz.func20,Tryz.ntmps20
   go_wp2_with fail
   refine (HZ.out _ ((HC.out.below (RCarton_mono _) ((Below.refl _ _).alloc (Nat.le_refl _) _)).more (RCarton_mono _) (by simp))).mono ?_
   rintro e w2 ⟨rfl,hb2⟩
   have hx2:=(hb2.block w.heap.size (by simp)).trans (heap_alloc_new w _)
   have hc2:=fun j=>cell_of_row _ _ j _ _ (0,0) hx2
   clear hx2
   go_wp2_with (go_at_call 88;refine (HZ2.out _).mono ?_;rintro e w3 ⟨rfl,rfl⟩)
   go_ret
   exact ⟨ret_int (by rw [HR.out,HN2.out hneg2]),bstep ((Below.refl _ _).alloc (Nat.le_refl _) _) hb2⟩
  ·go_enter Tryz.func20,Tryz.ntmps20
   go_wp2_with fail
   refine (HZ.out _ ((HC.out.below (RCarton_mono _) ((Below.refl _ _).alloc (Nat.le_refl _) _)).more (RCarton_mono _) (by simp))).mono ?_
   rintro e w2 ⟨rfl,hb2⟩
   have hx2:=(hb2.block w.heap.size (by simp)).trans (heap_alloc_new w _)
   have hc2:=fun j=>cell_of_row _ _ j _ _ (0,0) hx2
   clear hx2
   go_wp2_with (go_at_call 88;refine (HZ2.out _).mono ?_;rintro e w3 ⟨rfl,rfl⟩)
   go_ret
   exact ⟨ret_int HR.out.symm,bstep ((Below.refl _ _).alloc (Nat.le_refl _) _) hb2⟩
set_option maxHeartbeats 400000 in
theorem toCarton_any (x:Carton) (v:Value) (w:World) (hr:RInts 16777216 w w.heap.size v x.units) :
  Calls Tryz.prog 172 #[.agg #[.int .i64 x.type,.int .i64 x.group,v]] w fun e w'=>∃ A c,e=.returned (.agg #[.int .i64 x.type,.int .i64 x.group,.slice A x.units.length c])∧w'.ownsRow w.heap.size 3 1 (.slice A x.units.length c) x.units.length (x.units.flatMap cI)∧Below w.heap.size w w':=by
 have HR:=Lib.hid hr
 clear hr
 go_enter Tryz.func172,Tryz.ntmps172
 go_wp2_with fail
 have hb0:Below w.heap.size w (((w.alloc (.cells #[.int .i64 x.type,.int .i64 x.group,v] 163)).alloc (.cells #[.int .i64 0,.int .i64 0,.slice none 0 0] 78)).alloc (.cells #[.int .i64 x.type,.int .i64 x.group,.slice none 0 0] 78)):=(by repeat' with_reducible first | assumption | exact bR | apply bD | apply bA | apply bC | apply bN | simp <;> omega)
 refine (toIntS_any v x.units _ (HR.out.next (flat_mono _) hb0)).mono ?_
 rintro e w2 ⟨v',rfl,ho,hb2⟩
 obtain ⟨A',c',rfl⟩:=own_form ho
 have hx1:w2.heap[w.heap.size + 1]? = some (.cells #[.int .i64 0,.int .i64 0,.slice none 0 0] 78 (0,0)):=(hb2.block (w.heap.size + 1) (by simp)).trans (by (simp only [heap_alloc_if,World.size_alloc];repeat (first | rw [if_neg (by omega)] | rw [if_pos (by omega)] | rw [if_pos trivial])))
 have hx2:w2.heap[w.heap.size + 2]? = some (.cells #[.int .i64 x.type,.int .i64 x.group,.slice none 0 0] 78 (0,0)):=(hb2.block (w.heap.size + 2) (by simp)).trans (by (simp only [heap_alloc_if,World.size_alloc];repeat (first | rw [if_neg (by omega)] | rw [if_pos (by omega)] | rw [if_pos trivial])))
 have hc1:=fun j=>cell_of_row _ _ j _ _ (0,0) hx1
 have hf1:=fun j=>frozen_of_row _ _ j _ _ hx1
 have hc2:=fun j=>cell_of_row _ _ j _ _ (0,0) hx2
 have hf2:=fun j=>frozen_of_row _ _ j _ _ hx2
 have hblk:=ho.lt
 have HB:=Lib.hid hblk
 have HO:=Lib.hid ho
 have hsz:=hb2.size
 have hle:=lt_of_block hx2
 clear hx1 hx2 ho hblk
 go_wp2
 refine bodyPost_ret (v:=.agg #[.int .i64 x.type,.int .i64 x.group,.slice A' x.units.length c']) (by simp [results,Tryz.results172,go_sem,hc1]) rfl ?_
 have hb3:Below w.heap.size w w2:=bstep hb0 hb2
 refine ⟨A',c',rfl,own_base (own_block HO.out (fun g hg=>?_)) (by simp;omega),?_⟩
 ·have h1:=(HB.out g hg).1
  simp at h1
  rw [Below.heap_setCell,Below.heap_setCell,Below.heap_setCell,Below.heap_setCell] <;> simp <;> omega
 ·(repeat' with_reducible first | assumption | exact bR | apply bD | apply bA | apply bC | apply bN | simp <;> omega)
set_option maxHeartbeats 400000 in
theorem toCartonS_any (v:Value) (xs:List Carton) (w:World) (h:RCartons 16777216 w w.heap.size v xs) :
  Calls Tryz.prog 96 #[v] w fun e w'=>∃ v' fp,e=.returned v'∧OCartons w' w.heap.size v' xs fp∧Below w.heap.size w w':=by
 obtain ⟨i0,hi,hz0,hz1,hz2⟩:=info_parts info_Carton
 have h':=h
 obtain ⟨A,c,rfl,hbd,_⟩:=h
 have H:=Lib.hid h'
 clear h'
 go_enter Tryz.func96,Tryz.ntmps96
 go_wp2_with (at_make;refine wpList_make_full _ rfl _ _ 43 rfl w.heap.size 78 i0 _ 3 Tryz.underlying43 hi hz0 hz1 _ _ _ _ xs.length rfl rfl rfl rfl (by rw [hz2];omega) (by unfold maxLen;omega) (by simp) ?_;intro w1 hown hg)
 have hb1:Below w.heap.size w w1:=(Below.refl _ _).grown hg (Nat.le_refl _) (fun k hk=>by cases hk)
 clear hi hz0 hz1 hz2 hg
 go_loopw [4] (fun i wr=>∃ k:Nat,∃ cs fp,k≤xs.length∧i=.int .i64 k∧wr.ownsRow w.heap.size 78 3 (.slice (some ⟨w.heap.size,0,none⟩) xs.length xs.length) xs.length cs∧PO 3 ECarton wr xs k cs fp∧(fp.Nodup∧∀ b∈fp,w.heap.size < b∧b < wr.heap.size)∧Below w.heap.size w wr) (fun i _=>xs.length - (intOf i).toNat)
 case atStart=>exact ⟨0,_,[],Nat.zero_le _,rfl,hown,PO.zero,⟨by simp,by simp⟩,hb1⟩
 case round =>
  obtain ⟨k,cs,fp,hk,rfl,hown,hpo,hfp,hbl⟩:=hrel
  by_cases hlt:k < xs.length
  ·obtain ⟨b,off,x,_,rfl,hb,hx,_,⟨vu,rfl,hru⟩,hc⟩:=(H.out.below (RCarton_mono _) hbl).at_ k hlt
   have hru':=hru.more (flat_mono _) hbl.size
   obtain ⟨Au,cu,rfl,hun,_⟩:=hru
   have hc0:=hc 0 _ rfl
   have hc1:=hc 1 _ rfl
   have hc2:=hc 2 _ rfl
   have hg0:=hown.lt _ rfl
   have HRU:=Lib.hid hru'
   clear hc hru'
   simp only [Nat.add_zero] at hc0
   go_wp2_with (go_at_call 172;refine (toCarton_any x _ _ HRU.out).mono ?_;rintro e w2 ⟨A2,c2,rfl,ho2,hb2⟩;have hown2:=own_below hown hb2 (fun g hg=>(hown.lt g hg).2);clear hown;have hf:=hown2.frozenAt;obtain ⟨o0,ho0⟩:=own_room0 hown2 k hlt (by omega);obtain ⟨o1,ho1⟩:=own_room hown2 k 1 hlt (by omega);obtain ⟨o2,ho2'⟩:=own_room hown2 k 2 hlt (by omega))
   have hlen:=hown2.1
   have hpo2:=hpo.below ECarton_fr hb2 (fun b hb=>(hfp.2 b hb).2)
   have hblk:=ho2.lt
   have hE:ECarton (setW w2 w.heap.size (k * 3) [.int .i64 x.type,.int .i64 x.group,.slice A2 x.units.length c2]) [.int .i64 x.type,.int .i64 x.group,.slice A2 x.units.length c2] x (Value.slice A2 x.units.length c2).ownBlock.toList :=
    ⟨_,rfl,own_base (own_block ho2 (fun g hg=>heap_setW (by have:=(hblk g hg).1;omega) _ _ _)) (Nat.zero_le _),rfl⟩
   go_roundw
   case rel =>
    have hW:setW w2 w.heap.size (k * 3) [.int .i64 x.type,.int .i64 x.group,.slice A2 x.units.length c2]=((w2.setCell ⟨w.heap.size,k * 3,none⟩ (.int .i64 x.type)).setCell ⟨w.heap.size,k * 3 + 1,none⟩ (.int .i64 x.group)).setCell ⟨w.heap.size,k * 3 + 2,none⟩ (.slice A2 x.units.length c2):=rfl
    rw [← hW]
    refine ⟨k + 1,_,_,hlt,by go_num,storedL [.int .i64 x.type,.int .i64 x.group,.slice A2 x.units.length c2] cs w2 (k * 3) hown2,(hpo2.keep ECarton_fr (fun b hb=>heap_setW (by have:=(hfp.2 b hb).1;omega) _ _ _)).step hx hlen rfl hE,⟨?_,fun b hb=>?_⟩,Below.setW (Nat.le_refl _) [.int .i64 x.type,.int .i64 x.group,.slice A2 x.units.length c2] w2 (k * 3) (hbl.trans (hb2.mono (Nat.le_of_lt hg0.2)))⟩
    ·rw [List.nodup_append]
     refine ⟨hfp.1,by cases (Value.slice A2 x.units.length c2).ownBlock <;> simp,fun p hp q hq e=>?_⟩
     have h1:=(hblk q (ownBlock_mem hq)).1
     have h2:=(hfp.2 p hp).2
     omega
    ·have hs2:=hb2.size
     have h5:(setW w2 w.heap.size (k * 3) [.int .i64 x.type,.int .i64 x.group,.slice A2 x.units.length c2]).heap.size=w2.heap.size:=size_setW _ _ _
     rcases List.mem_append.1 hb with hb | hb
     ·have h2:=hfp.2 b hb
      exact ⟨h2.1,Nat.lt_of_lt_of_le h2.2 (by rw [← h5] at hs2;exact hs2)⟩
     ·have h1:=hblk b (ownBlock_mem hb)
      exact ⟨by omega,by rw [← h5] at h1;exact h1.2⟩
   case measure=>simp [intOf];omega
  ·go_wp2
   go_ret
   obtain rfl:k=xs.length:=by omega
   refine ⟨_,w.heap.size::fp,rfl,⟨cs,fp,hown,by simp [Value.ownBlock],?_,fun b hb=>?_,hpo⟩,hbl⟩
   ·rw [List.nodup_cons]
    exact ⟨fun hm=>by have:=(hfp.2 _ hm).1;omega,hfp.1⟩
   ·rcases List.mem_cons.1 hb with rfl | hb
    ·exact hown.lt _ rfl
    ·have:=hfp.2 b hb
     omega
set_option maxHeartbeats 400000 in
theorem toPlan_any (v:Value) (p:Plan) (w:World) (h:RPlan 16777216 w w.heap.size v p) :
  Calls Tryz.prog 23 #[v] w fun e w'=>∃ v' fp,e=.returned v'∧OPlan w' w.heap.size v' p fp∧Below w.heap.size w w':=by
 obtain ⟨v1,v2,rfl,h1,h2⟩:=h
 have H1:=Lib.hid h1
 have H2:=Lib.hid h2
 clear h1 h2
 go_enter Tryz.func23,Tryz.ntmps23
 go_wp2_with fail
 have hb0:Below w.heap.size w (((w.alloc (.cells #[v1,v2] 32)).alloc (.cells #[.slice none 0 0,.slice none 0 0] 46)).alloc (.cells #[.slice none 0 0,.slice none 0 0] 46)):=(by repeat' with_reducible first | assumption | exact bR | apply bD | apply bA | apply bC | apply bN | simp <;> omega)
 have hq1:(((w.alloc (.cells #[v1,v2] 32)).alloc (.cells #[.slice none 0 0,.slice none 0 0] 46)).alloc (.cells #[.slice none 0 0,.slice none 0 0] 46)).heap[w.heap.size]? = some (.cells #[v1,v2] 32 (0,0)):=by (simp only [heap_alloc_if,World.size_alloc];repeat (first | rw [if_neg (by omega)] | rw [if_pos (by omega)] | rw [if_pos trivial]))
 have hq2:(((w.alloc (.cells #[v1,v2] 32)).alloc (.cells #[.slice none 0 0,.slice none 0 0] 46)).alloc (.cells #[.slice none 0 0,.slice none 0 0] 46)).heap[w.heap.size + 1]? = some (.cells #[.slice none 0 0,.slice none 0 0] 46 (0,0)):=by (simp only [heap_alloc_if,World.size_alloc];repeat (first | rw [if_neg (by omega)] | rw [if_pos (by omega)] | rw [if_pos trivial]))
 have hq3:(((w.alloc (.cells #[v1,v2] 32)).alloc (.cells #[.slice none 0 0,.slice none 0 0] 46)).alloc (.cells #[.slice none 0 0,.slice none 0 0] 46)).heap[w.heap.size + 2]? = some (.cells #[.slice none 0 0,.slice none 0 0] 46 (0,0)):=by (simp only [heap_alloc_if,World.size_alloc];repeat (first | rw [if_neg (by omega)] | rw [if_pos (by omega)] | rw [if_pos trivial]))
 have hqs:(((w.alloc (.cells #[v1,v2] 32)).alloc (.cells #[.slice none 0 0,.slice none 0 0] 46)).alloc (.cells #[.slice none 0 0,.slice none 0 0] 46)).heap.size=w.heap.size + 3:=by simp
 generalize (((w.alloc (.cells #[v1,v2] 32)).alloc (.cells #[.slice none 0 0,.slice none 0 0] 46)).alloc (.cells #[.slice none 0 0,.slice none 0 0] 46))=W at *
 refine (toCartonS_any v1 p.cartons _ (H1.out.next (RCarton_mono _) hb0)).mono ?_
 rintro e w2 ⟨u1,f1,rfl,ho1,hb2⟩
 obtain ⟨A1,c1,rfl⟩:=OL.form ho1
 have hx1:=(hb2.block w.heap.size (by omega)).trans hq1
 have hx2:=(hb2.block (w.heap.size + 1) (by omega)).trans hq2
 have hx3:=(hb2.block (w.heap.size + 2) (by omega)).trans hq3
 have hc1:=fun j=>cell_of_row _ _ j _ _ (0,0) hx1
 have hc3:=fun j=>cell_of_row _ _ j _ _ (0,0) hx3
 have hf3:=fun j=>frozen_of_row _ _ j _ _ hx3
 have hsz:=hb2.size
 have HO1:=Lib.hid ho1
 have HX1:=Lib.hid hx1
 have HX2:=Lib.hid hx2
 have HX3:=Lib.hid hx3
 have HQS:=Lib.hid hqs
 have hbw2:Below w.heap.size w w2:=bstep hb0 hb2
 have hlt3:=lt_of_block hx3
 clear hq1 hq2 hq3 hx1 hx2 hx3 ho1 hqs
 go_wp2_with fail
 have hb3:Below w.heap.size w (w2.setCell ⟨w.heap.size + 2,0,none⟩ (.slice A1 p.cartons.length c1)):=(by repeat' with_reducible first | assumption | exact bR | apply bD | apply bA | apply bC | apply bN | simp <;> omega)
 refine (toSpotS_any v2 p.spots _ (H2.out.next (flat_mono _) hb3)).mono ?_
 rintro e w3 ⟨u2,rfl,ho2,hb4⟩
 obtain ⟨A2,c2,rfl⟩:=own_form ho2
 have hs2:(w2.setCell ⟨w.heap.size + 2,0,none⟩ (.slice A1 p.cartons.length c1)).heap.size=w2.heap.size:=by simp [World.setCell]
 have hx2:=(hb4.block (w.heap.size + 1) (by omega)).trans ((Below.heap_setCell _ _ _ _ (by simp)).trans HX2.out)
 have hx3:=(hb4.block (w.heap.size + 2) (by omega)).trans (heap_setCell_same w2 (w.heap.size + 2) 0 _ _ _ HX3.out)
 have hc2:=fun j=>cell_of_row _ _ j _ _ (0,0) hx2
 have hf2:=fun j=>frozen_of_row _ _ j _ _ hx2
 have hd3:=fun j=>cell_of_row _ _ j _ _ (0,0) hx3
 have hg3:=fun j=>frozen_of_row _ _ j _ _ hx3
 have hsz3:=hb4.size
 have HO2:=Lib.hid ho2
 have HS2:=Lib.hid hs2
 have hb5:Below w.heap.size w w3:=bstep hb3 hb4
 have hlt4:=lt_of_block hx3
 clear hx2 hx3 ho2 hs2 hc1 hc3 hf3
 go_wp2
 refine bodyPost_ret (v:=.agg #[.slice A1 p.cartons.length c1,.slice A2 p.spots.length c2]) (by simp [results,Tryz.results23,go_sem,hc2]) rfl ?_
 have hne:∀ b,w2.heap.size≤b ∨ (W.heap.size≤b∧b < w2.heap.size)→b ≠ w.heap.size + 1∧b ≠ w.heap.size + 2:=fun b hb=>by have:=HQS.out;omega
 have hk1:∀ b,b ≠ w.heap.size + 1∧b ≠ w.heap.size + 2→(((w3.setCell ⟨w.heap.size + 2,1,none⟩ (.slice A2 p.spots.length c2)).setCell ⟨w.heap.size + 1,0,none⟩ (.slice A1 p.cartons.length c1)).setCell ⟨w.heap.size + 1,1,none⟩ (.slice A2 p.spots.length c2)).heap[b]? = w3.heap[b]?:=fun b hb=>by
  rw [Below.heap_setCell _ _ _ _ hb.1,Below.heap_setCell _ _ _ _ hb.1,Below.heap_setCell _ _ _ _ hb.2]
 have hk2:(((w3.setCell ⟨w.heap.size + 2,1,none⟩ (.slice A2 p.spots.length c2)).setCell ⟨w.heap.size + 1,0,none⟩ (.slice A1 p.cartons.length c1)).setCell ⟨w.heap.size + 1,1,none⟩ (.slice A2 p.spots.length c2)).heap.size=w3.heap.size:=by simp [World.setCell]
 have hl1:=OL.lt HO1.out
 have ho2:=OL_of_own HO2.out (fun _=>rfl)
 have hl2:=OL.lt ho2
 have hs2:=HS2.out
 have hq:=HQS.out
 refine ⟨_,f1 ++ (Value.slice A2 p.spots.length c2).ownBlock.toList,rfl,⟨_,_,f1,_,rfl,OL.base (OL.keep HO1.out ECarton_fr (by rw [hk2];omega) (fun b hb=>?_)) (by omega),OL.base (OL.keep ho2 (eflat_fr _) (by rw [hk2];omega) (fun b hb=>?_)) (by omega),rfl,?_⟩,?_⟩
 ·have h1:=hl1 b hb
  rw [hk1 b (hne b (.inr ⟨h1.1,h1.2⟩)),hb4.block b (by rw [hs2];exact h1.2),Below.heap_setCell _ _ _ _ (hne b (.inr ⟨h1.1,h1.2⟩)).2]
 ·have h1:=(hl2 b hb).1
  rw [hs2] at h1
  exact hk1 b (hne b (.inl h1))
 ·rw [List.nodup_append]
  refine ⟨OL.nodup HO1.out,OL.nodup ho2,fun a ha b hb e=>?_⟩
  have h1:=(hl1 a ha).2
  have h2:=(hl2 b hb).1
  omega
 ·(repeat' with_reducible first | assumption | exact bR | apply bD | apply bA | apply bC | apply bN | simp <;> omega)
set_option maxHeartbeats 400000 in
theorem eqCarton_any (x y:Carton) (v u:Value) (w:World) (hv:RInts 16777216 w w.heap.size v x.units) (hu:RInts 16777216 w w.heap.size u y.units) :
  Calls Tryz.prog 177 #[.agg #[.int .i64 x.type,.int .i64 x.group,v],.agg #[.int .i64 y.type,.int .i64 y.group,u]] w fun e w'=>e=.returned (.bool (decide (x=y)))∧Below w.heap.size w w':=by
 have HV:=Lib.hid hv
 have HU:=Lib.hid hu
 clear hv hu
 have hd:decide (x=y)=(decide (x.type=y.type) && decide (x.group=y.group) && decide (x.units=y.units)):=by
  cases x;cases y;simp [Bool.and_assoc]
 by_cases h1:x.type=y.type
 ·by_cases h2:x.group=y.group
  ·have hq1:(x.type != y.type)=false:=by simp [h1]
   have hq2:(x.group != y.group)=false:=by simp [h2]
   have hr:decide (x=y)=decide (x.units=y.units):=by rw [hd];simp [h1,h2]
   have HR:=Lib.hid hr
   clear hd hr h1 h2
   have hb0:Below w.heap.size w ((w.alloc (.cells #[.int .i64 x.type,.int .i64 x.group,v] 78)).alloc (.cells #[.int .i64 y.type,.int .i64 y.group,u] 78)):=(by repeat' with_reducible first | assumption | exact bR | apply bD | apply bA | apply bC | apply bN | simp <;> omega)
   by_cases h3:x.units=y.units
   ·have hq3:decide (x.units=y.units)=true:=by simp [h3]
    have HQ:=Lib.hid h3
    clear h3
    go_enter Tryz.func177,Tryz.ntmps177
    go_wp2_with fail
    refine (eqIntS_any v u x.units y.units _ (HV.out.next (flat_mono _) hb0) (HU.out.next (flat_mono _) hb0)).mono ?_
    rintro e w2 ⟨rfl,hb2⟩
    go_wp2
    go_ret
    exact ⟨ret_bool (by rw [HR.out];exact hq3.symm),bstep hb0 hb2⟩
   ·have hq3:decide (x.units=y.units)=false:=by simp [h3]
    have HQ:=Lib.hid h3
    clear h3
    go_enter Tryz.func177,Tryz.ntmps177
    go_wp2_with fail
    refine (eqIntS_any v u x.units y.units _ (HV.out.next (flat_mono _) hb0) (HU.out.next (flat_mono _) hb0)).mono ?_
    rintro e w2 ⟨rfl,hb2⟩
    go_wp2
    go_ret
    exact ⟨ret_bool (by rw [HR.out];exact hq3.symm),bstep hb0 hb2⟩
  ·have hr:decide (x=y)=false:=by rw [hd];simp [h2]
   have hq2:(x.group != y.group)=true:=by simpa using h2
   have hq1:(x.type != y.type)=false:=by simp [h1]
   have HR:=Lib.hid hr
   clear hd hr h1 h2
   go_enter Tryz.func177,Tryz.ntmps177
   go_wp2_with fail
   go_ret
   exact ⟨ret_bool HR.out.symm,(by repeat' with_reducible first | assumption | exact bR | apply bD | apply bA | apply bC | apply bN | simp <;> omega)⟩
 ·have hr:decide (x=y)=false:=by rw [hd];simp [h1]
  have hq1:(x.type != y.type)=true:=by simpa using h1
  have HR:=Lib.hid hr
  clear hd hr h1
  go_enter Tryz.func177,Tryz.ntmps177
  go_wp2_with fail
  go_ret
  exact ⟨ret_bool HR.out.symm,(by repeat' with_reducible first | assumption | exact bR | apply bD | apply bA | apply bC | apply bN | simp <;> omega)⟩
set_option maxHeartbeats 400000 in
theorem eqCartonS_any (v u:Value) (xs ys:List Carton) (w:World) (h:RCartons 16777216 w w.heap.size v xs) (h2:RCartons 16777216 w w.heap.size u ys) :
  Calls Tryz.prog 102 #[v,u] w fun e w'=>e=.returned (.bool (decide (xs=ys)))∧Below w.heap.size w w':=by
 have h':=h
 obtain ⟨A,c,rfl,hbd,_⟩:=h
 have H:=Lib.hid h'
 clear h'
 have h':=h2
 obtain ⟨A2,c2,rfl,hbd2,_⟩:=h2
 have H2:=Lib.hid h'
 clear h'
 by_cases hl:xs.length=ys.length
 ·have hl0:((xs.length:Int) != (ys.length:Int))=false:=by simp [hl]
  have HL:=Lib.hid hl
  clear hl
  go_enter Tryz.func102,Tryz.ntmps102
  go_wp2
  go_loopw [5] (fun i wr=>∃ k:Nat,k≤xs.length∧i=.int .i64 k∧(∀ i,i < k→xs[i]? = ys[i]?)∧Below w.heap.size w wr) (fun i _=>xs.length - (intOf i).toNat)
  case atStart=>exact ⟨0,Nat.zero_le _,rfl,fun _ h=>by omega,Below.refl _ _⟩
  case round =>
   obtain ⟨k,hk,rfl,heq,hbl⟩:=hrel
   have HE:=Lib.hid heq
   clear heq
   by_cases hlt:k < xs.length
   ·obtain ⟨b,off,x,_,rfl,hb,hx,_,⟨vx,rfl,hrx⟩,hc⟩:=(H.out.below (RCarton_mono _) hbl).at_ k hlt
    obtain ⟨b2,off2,y,_,rfl,hb2,hy,_,⟨vy,rfl,hry⟩,hc2⟩:=(H2.out.below (RCarton_mono _) hbl).at_ k (HL.out ▸ hlt)
    have hsz:=hbl.size
    have hlt2:k < ys.length:=HL.out ▸ hlt
    have hq0:=fun X:Ext wr.heap.size wr=>(X.cells (o:=off + k * 3) (Nat.lt_of_lt_of_le hb hsz)).trans (hc 0 _ rfl)
    have hq1:=fun X:Ext wr.heap.size wr=>(X.cells (o:=off + k * 3 + 1) (Nat.lt_of_lt_of_le hb hsz)).trans (hc 1 _ rfl)
    have hq2:=fun X:Ext wr.heap.size wr=>(X.cells (o:=off + k * 3 + 2) (Nat.lt_of_lt_of_le hb hsz)).trans (hc 2 _ rfl)
    have hp0:=fun X:Ext wr.heap.size wr=>(X.cells (o:=off2 + k * 3) (Nat.lt_of_lt_of_le hb2 hsz)).trans (hc2 0 _ rfl)
    have hp1:=fun X:Ext wr.heap.size wr=>(X.cells (o:=off2 + k * 3 + 1) (Nat.lt_of_lt_of_le hb2 hsz)).trans (hc2 1 _ rfl)
    have hp2:=fun X:Ext wr.heap.size wr=>(X.cells (o:=off2 + k * 3 + 2) (Nat.lt_of_lt_of_le hb2 hsz)).trans (hc2 2 _ rfl)
    have hcall:=fun X:Ext wr.heap.size wr=>eqCarton_any x y vx vy X.world ((hrx.more (flat_mono _) hsz).keep (flat_mono _) (fun _ hp=>X.ok.cell hp) X.size) ((hry.more (flat_mono _) hsz).keep (flat_mono _) (fun _ hp=>X.ok.cell hp) X.size)
    have HC:=Lib.hid hcall
    clear hc hc2 hrx hry hcall
    by_cases hxy:x=y
    ·have hdx:decide (x=y)=true:=by simp [hxy]
     have HXY:=Lib.hid hxy
     clear hxy
     go_wp2
     refine wp_region_ext wr.heap.size (by kernel_rfl) (by kernel_rfl) ?_
     repeat (go_big_quiet_step (exact ext_call (Nat.le_refl _) (HC.out _)))
     refine wpQuiet_nil ?_
     intro _ hw'
     obtain ⟨X,rfl⟩:=hw'
     go_wp2
     go_roundw
     case rel=>exact ⟨k + 1,hlt,by go_num,eq_upto HE.out hx (by rw [hy,HXY.out]),hbl.trans (X.ok.mono hsz)⟩
     case measure=>simp [intOf];omega
    ·have hne:=list_ne_of hx hy hxy
     have HN:=Lib.hid hne
     have hdx:decide (x=y)=false:=by simp [hxy]
     clear hne hxy
     go_wp2
     refine wp_region_ext wr.heap.size (by kernel_rfl) (by kernel_rfl) ?_
     repeat (go_big_quiet_step (exact ext_call (Nat.le_refl _) (HC.out _)))
     refine wpQuiet_nil ?_
     intro _ hw'
     obtain ⟨X,rfl⟩:=hw'
     go_wp2
     go_ret
     exact ⟨ret_bool (by simp [HN.out]),hbl.trans (X.ok.mono hsz)⟩
   ·have heq:=list_eq_of HL.out (show k=xs.length by omega) HE.out
    have HN:=Lib.hid heq
    clear heq
    go_wp2
    go_ret
    exact ⟨ret_bool (by simp [HN.out]),hbl⟩
 ·have hl0:((xs.length:Int) != (ys.length:Int))=true:=by rw [bne_iff_ne];omega
  have hne:xs ≠ ys:=fun e=>hl (by rw [e])
  have HN:=Lib.hid hne
  clear hne hl
  go_enter Tryz.func102,Tryz.ntmps102
  go_wp2
  go_ret
  exact ⟨ret_bool (by simp [HN.out]),Below.refl _ _⟩
set_option maxHeartbeats 400000 in
theorem eqPlan_any (v u:Value) (p q:Plan) (w:World) (h:RPlan 16777216 w w.heap.size v p) (h2:RPlan 16777216 w w.heap.size u q) :
  Calls Tryz.prog 26 #[v,u] w fun e w'=>e=.returned (.bool (decide (p=q)))∧Below w.heap.size w w':=by
 obtain ⟨v1,v2,rfl,hv1,hv2⟩:=h
 obtain ⟨u1,u2,rfl,hu1,hu2⟩:=h2
 have HV1:=Lib.hid hv1
 have HV2:=Lib.hid hv2
 have HU1:=Lib.hid hu1
 have HU2:=Lib.hid hu2
 clear hv1 hv2 hu1 hu2
 have hd:decide (p=q)=(decide (p.cartons=q.cartons) && decide (p.spots=q.spots)):=by cases p;cases q;simp
 have hb0:Below w.heap.size w ((w.alloc (.cells #[v1,v2] 46)).alloc (.cells #[u1,u2] 46)):=(by repeat' with_reducible first | assumption | exact bR | apply bD | apply bA | apply bC | apply bN | simp <;> omega)
 by_cases h1:p.cartons=q.cartons
 ·have hq1:decide (p.cartons=q.cartons)=true:=by simp [h1]
  have hr:decide (p=q)=decide (p.spots=q.spots):=by rw [hd];simp [h1]
  have HR:=Lib.hid hr
  have HD:=Lib.hid h1
  clear h1 hr hd
  by_cases h2:p.spots=q.spots
  all_goals
   first | (have hq2:decide (p.spots=q.spots)=true:=by simp [h2]) | (have hq2:decide (p.spots=q.spots)=false:=by simp [h2])
   clear h2
   go_enter Tryz.func26,Tryz.ntmps26
   go_wp2_with fail
   refine (eqCartonS_any v1 u1 p.cartons q.cartons _ (HV1.out.next (RCarton_mono _) hb0) (HU1.out.next (RCarton_mono _) hb0)).mono ?_
   rintro e w2 ⟨rfl,hb2⟩
   have hx1:=(hb2.block w.heap.size (by simp <;> omega)).trans (show _=some (.cells #[v1,v2] 46 (0,0)) from by (simp only [heap_alloc_if,World.size_alloc];repeat (first | rw [if_neg (by omega)] | rw [if_pos (by omega)] | rw [if_pos trivial])))
   have hx2:=(hb2.block (w.heap.size + 1) (by simp <;> omega)).trans (show _=some (.cells #[u1,u2] 46 (0,0)) from by (simp only [heap_alloc_if,World.size_alloc];repeat (first | rw [if_neg (by omega)] | rw [if_pos (by omega)] | rw [if_pos trivial])))
   have hc1:=fun j=>cell_of_row _ _ j _ _ (0,0) hx1
   have hc2:=fun j=>cell_of_row _ _ j _ _ (0,0) hx2
   have hb02:=bstep hb0 hb2
   clear hx1 hx2
   go_wp2_with fail
   refine (eqSpotS_any v2 u2 p.spots q.spots _ (HV2.out.next (flat_mono _) hb02) (HU2.out.next (flat_mono _) hb02)).mono ?_
   rintro e w3 ⟨rfl,hb3⟩
   go_wp2
   go_ret
   exact ⟨ret_bool (by rw [HR.out];exact hq2.symm),bstep hb02 hb3⟩
 ·have hq1:decide (p.cartons=q.cartons)=false:=by simp [h1]
  have hr:decide (p=q)=false:=by rw [hd];simp [h1]
  have HR:=Lib.hid hr
  clear h1 hr hd
  go_enter Tryz.func26,Tryz.ntmps26
  go_wp2_with fail
  refine (eqCartonS_any v1 u1 p.cartons q.cartons _ (HV1.out.next (RCarton_mono _) hb0) (HU1.out.next (RCarton_mono _) hb0)).mono ?_
  rintro e w2 ⟨rfl,hb2⟩
  go_wp2
  go_ret
  exact ⟨ret_bool HR.out.symm,bstep hb0 hb2⟩
end Go.Proofs.YtioijfplbgpjpaaGreat
namespace Go.Proofs.YtioijfplbgpjpaaGreat
set_option linter.unusedVariables false
set_option linter.unusedSimpArgs false
set_option maxRecDepth 100000
open Go.RowKit
section
variable {w W:World} {B:Nat}
end
end Go.Proofs.YtioijfplbgpjpaaGreat
namespace Go.Proofs.YtioijfplbgpjpaaGreat
set_option linter.unusedVariables false
set_option linter.unusedSimpArgs false
set_option maxRecDepth 100000
end Go.Proofs.YtioijfplbgpjpaaGreat
namespace Go.Proofs.YtioijfplbgpjpaaGreat
set_option linter.unusedVariables false
set_option linter.unusedSimpArgs false
set_option maxRecDepth 100000
open Go.RowKit
end Go.Proofs.YtioijfplbgpjpaaGreat
namespace Go.Proofs.YtioijfplbgpjpaaGreat
set_option linter.unusedVariables false
set_option linter.unusedSimpArgs false
set_option maxRecDepth 100000
open Go.RowKit
section
variable {α β:Type}
end
section
variable {α β:Type}
end
end Go.Proofs.YtioijfplbgpjpaaGreat
namespace Go.Proofs.YtioijfplbgpjpaaGreat
set_option linter.unusedVariables false
set_option linter.unusedSimpArgs false
set_option maxRecDepth 100000
open Go.RowKit
section
set_option linter.unusedSectionVars false
variable {α:Type} [Inhabited α] {P:α→Prop} {xs:List α} {x:α}
end
end Go.Proofs.YtioijfplbgpjpaaGreat
namespace Go.Proofs.YtioijfplbgpjpaaGreat
set_option linter.unusedVariables false
set_option linter.unusedSimpArgs false
set_option maxRecDepth 100000
open Go.RowKit
variable {r:Request}
end Go.Proofs.YtioijfplbgpjpaaGreat
namespace Go.Proofs.YtioijfplbgpjpaaGreat
set_option linter.unusedVariables false
set_option linter.unusedSimpArgs false
set_option maxRecDepth 100000
open Go.RowKit
end Go.Proofs.YtioijfplbgpjpaaGreat
namespace Go.Proofs.YtioijfplbgpjpaaGreat
set_option linter.unusedVariables false
set_option linter.unusedSimpArgs false
set_option maxRecDepth 100000
open Go.RowKit
section
variable {P:Program}
end
end Go.Proofs.YtioijfplbgpjpaaGreat
namespace Go.Proofs.YtioijfplbgpjpaaGreat
set_option linter.unusedVariables false
set_option linter.unusedSimpArgs false
set_option maxRecDepth 100000
open Go.RowKit
section
variable {P:Program}
end
section
variable {w w':World} {B0 base e K n:Nat} {v:Value} {xs:List Value}
end
section
variable {P:Program}
end
end Go.Proofs.YtioijfplbgpjpaaGreat
namespace Go.Proofs.YtioijfplbgpjpaaGreat
set_option linter.unusedVariables false
set_option linter.unusedSimpArgs false
set_option maxRecDepth 100000
open Go.RowKit
theorem one_String:∀ (y:ByteArray),∀ u∈cS y,u.oneCell'=true:=fun y u hu=>by simp [cS] at hu;subst hu;rfl
end Go.Proofs.YtioijfplbgpjpaaGreat
namespace Go.Proofs.YtioijfplbgpjpaaGreat
set_option linter.unusedVariables false
set_option linter.unusedSimpArgs false
set_option maxRecDepth 100000
open Go.RowKit
end Go.Proofs.YtioijfplbgpjpaaGreat
namespace Go.Proofs.YtioijfplbgpjpaaGreat
set_option linter.unusedVariables false
set_option linter.unusedSimpArgs false
set_option maxRecDepth 100000
open Go.RowKit
section
variable {α:Type} {f:α→List Value} {e K:Nat} {w w':World} {bs B:Nat} {v:Value} {xs:List α} {fp fp':List Nat}
end
section
variable {B:Nat} {W w w':World} {g:Nat} {t:TypeId} {cs:Array Value}
theorem AtB.oldc (h:AtB B W g t cs w) {b:Nat} (hb:b < B) (hn:b ≠ g) {c:Array Value} {t':TypeId} (ho:W.heap[b]? = some (.cells c t' (0,0))) (j:Nat):w.cell? ⟨b,j,none⟩=c[j]?:=cell_of_row _ _ j _ _ (0,0) (h.old hb hn ho)
theorem AtB.oldf (h:AtB B W g t cs w) {b:Nat} (hb:b < B) (hn:b ≠ g) {c:Array Value} {t':TypeId} (ho:W.heap[b]? = some (.cells c t' (0,0))) (j:Nat):w.frozen? ⟨b,j,none⟩=false:=frozen_of_row _ _ j _ _ (h.old hb hn ho)
end
end Go.Proofs.YtioijfplbgpjpaaGreat
namespace Go.Proofs.YtioijfplbgpjpaaGreat
set_option linter.unusedVariables false
set_option linter.unusedSimpArgs false
set_option maxRecDepth 100000
open Go.RowKit
def mkS {α:Type} (K:Nat) (g:Int→α):Int→Nat→List α
 |_,0=>[]
 |k,n + 1=>g k::mkS K g (k + K) n
theorem mkS_length {α:Type} (K:Nat) (g:Int→α):∀ (n:Nat) (k:Int),(mkS K g k n).length=n
 |0,_=>rfl
 |n + 1,k=>by simp [mkS,mkS_length K g n]
theorem mkS_get {α:Type} (K:Nat) (g:Int→α):∀ (n j:Nat) (k:Int),j < n→(mkS K g k n)[j]? = some (g (k + ((j * K:Nat):Int)))
 |0,_,_,h=>by omega
 |n + 1,0,k,_=>by simp [mkS]
 |n + 1,j + 1,k,h=>by
  rw [mkS,List.getElem?_cons_succ,mkS_get K g n j _ (by omega),Nat.add_mul,Nat.one_mul]
  congr 2
  omega
theorem mkS_snoc {α:Type} (K:Nat) (g:Int→α):∀ (n:Nat) (k:Int),mkS K g k (n + 1)=mkS K g k n ++ [g (k + ((n * K:Nat):Int))]
 |0,k=>by simp [mkS]
 |n + 1,k=>by
  rw [mkS,mkS_snoc K g n (k + K),mkS,List.cons_append,Nat.add_mul,Nat.one_mul]
  congr 4
  omega
theorem mix_store {α:Type} {f:α→List Value} {K:Nat} (hK:∀ x,(f x).length=K) {pre xs:List α} {j:Nat} (hp:pre.length=j) (hj:j < xs.length) (y:α) :
  setL ((pre ++ xs.drop j).flatMap f) (j * K) (f y)=((pre ++ [y]) ++ xs.drop (j + 1)).flatMap f:=by
 have hd:xs.drop j=xs[j]::xs.drop (j + 1):=List.drop_eq_getElem_cons hj
 have hl:(pre.flatMap f).length=j * K:=by
  rw [← hp]
  induction pre with
  |nil=>simp
  |cons x l ih=>rw [List.flatMap_cons,List.length_append,hK,List.length_cons,Nat.add_mul,Nat.one_mul,Nat.add_comm];congr 1;clear ih hp;induction l with
   |nil=>simp
   |cons x l ih=>rw [List.flatMap_cons,List.length_append,hK,ih,List.length_cons,Nat.add_mul,Nat.one_mul,Nat.add_comm]
 have happ:∀ (us l1 l2:List Value),setL (l1 ++ l2) l1.length us=l1 ++ setL l2 0 us:=by
  have gen:∀ (us l1 l2:List Value) (j:Nat),setL (l1 ++ l2) (l1.length + j) us=l1 ++ setL l2 j us:=by
   intro us
   induction us with
   |nil=>intro _ _ _;rfl
   |cons u us ih=>intro l1 l2 j;unfold setL;rw [List.set_append_right _ _ (Nat.le_add_right _ _),Nat.add_sub_cancel_left,Nat.add_assoc];exact ih l1 _ (j + 1)
  intro us l1 l2
  exact gen us l1 l2 0
 have hrow:∀ (us l t:List Value),l.length=us.length→setL (l ++ t) 0 us=us ++ t:=by
  have gen:∀ (us d l t:List Value),l.length=us.length→setL (d ++ (l ++ t)) d.length us=d ++ (us ++ t):=by
   intro us
   induction us with
   |nil=>intro d l t h;cases l <;> simp_all [setL]
   |cons u us ih =>
    intro d l t h
    cases l with
    |nil=>simp at h
    |cons x l =>
     unfold setL
     rw [List.set_append_right _ _ (Nat.le_refl _),Nat.sub_self,List.cons_append,List.set_cons_zero]
     have:=ih (d ++ [u]) l t (by simpa using h)
     simpa using this
  intro us l t h
  exact gen us [] l t h
 rw [hd,List.flatMap_append,List.flatMap_cons,← hl,happ,hrow _ _ _ (by rw [hK,hK])]
 simp
abbrev mkInt (m:Int):Int:=m
set_option maxHeartbeats 400000 in
theorem markIntS_any (v:Value) (xs:List Int) (k:Int) (base:Nat) (w:World) (h:w.ownsRow base 3 1 v xs.length (xs.flatMap cI)) (hb:xs.length≤16777216) (h0:0≤k) (h1:k≤4294967296) :
  Calls Tryz.prog 34 #[v,.int .i64 k] w fun e w'=>e=.returned (.int .i64 (k + ((xs.length * 1:Nat):Int)))∧w'.ownsRow base 3 1 v xs.length ((mkS 1 mkInt k xs.length).flatMap cI)∧Tch v.ownBlock.toList w w':=by
 obtain ⟨A,c,rfl⟩:=own_form h
 have H:=Lib.hid h
 clear h
 obtain ⟨V,hV⟩:∃ V,V=Value.slice A xs.length c:=⟨_,rfl⟩
 go_enter Tryz.func34,Tryz.ntmps34
 go_wp2
 go_loopw [1,5] (fun kk i wr=>∃ j:Nat,∃ m:Int,j≤xs.length∧0≤m∧m≤9223372036854775000∧kk=.int .i64 m∧i=.int .i64 j∧m=k + ((j * 1:Nat):Int)∧wr.ownsRow base 3 1 (.slice A xs.length c) xs.length ((mkS 1 mkInt k j ++ xs.drop j).flatMap cI)∧Tch (Value.slice A xs.length c).ownBlock.toList w wr) (fun _ i _=>xs.length - (intOf i).toNat)
 case atStart=>exact ⟨0,k,Nat.zero_le _,h0,by omega,rfl,rfl,by simp,by simpa [mkS] using H.out,Tch.refl _ _⟩
 case round =>
  obtain ⟨j,m,hj,hm0,hm1,rfl,rfl,hm,hown,ht⟩:=hrel
  have HM:=Lib.hid hm
  by_cases hlt:j < xs.length
  ·have hm2:m≤9223372036854774000:=by omega
   clear hm
   obtain ⟨g,rfl⟩:∃ g,A=some ⟨g,0,none⟩:=by
    rcases hown.2 with ⟨hv,_⟩ | ⟨g,cap,cur,hv,_⟩
    ·have hv':=congrArg (fun v=>match v with | .slice _ m _=>m | _=>0) hv;simp at hv';omega
    ·cases hv;exact ⟨g,rfl⟩
   have hf:=hown.frozenAt
   obtain ⟨o0,ho0⟩:=own_room0 hown j hlt (by omega)
   simp only [Nat.mul_one] at ho0
   have hst:=storedL [.int .i64 (m)] _ wr (j * 1) hown
   have hmk:mkS 1 mkInt k (j + 1)=mkS 1 mkInt k j ++ [mkInt m]:=by rw [mkS_snoc,HM.out]
   have hst2:=mix_store (f:=cI) (K:=1) (fun _=>rfl) (mkS_length 1 mkInt j k) hlt (mkInt m)
   rw [show cI (mkInt m)=[.int .i64 (m)] from rfl,← hmk] at hst2
   rw [hst2] at hst
   clear hmk hst2
   have htc:=Tch.setW (show g∈(Value.slice (some ⟨g,0,none⟩) xs.length c).ownBlock.toList by simp [Value.ownBlock]) [.int .i64 (m)] wr (j * 1) ht
   simp only [Nat.mul_one,setW] at hst htc
   have HST:=Lib.hid hst
   have HTC:=Lib.hid htc
   clear hst htc hown ht
   go_wp2
   go_roundw
   case rel=>exact ⟨j + 1,m + 1,hlt,by omega,by omega,rfl,by go_num,by have:=HM.out;omega,HST.out,HTC.out⟩
   case measure=>simp [intOf];omega
  ·obtain rfl:j=xs.length:=by omega
   rw [List.drop_length,List.append_nil] at hown
   clear hm
   go_wp2
   go_ret
   exact ⟨ret_int HM.out,hown,ht⟩
abbrev mkSpot (m:Int):Spot:=⟨m,m + 1,m + 1 + 1,m + 1 + 1 + 1⟩
set_option maxHeartbeats 400000 in
theorem markSpotS_any (v:Value) (xs:List Spot) (k:Int) (base:Nat) (w:World) (h:w.ownsRow base 72 4 v xs.length (xs.flatMap Spot.cells)) (hb:xs.length≤16777216) (h0:0≤k) (h1:k≤4294967296) :
  Calls Tryz.prog 112 #[v,.int .i64 k] w fun e w'=>e=.returned (.int .i64 (k + ((xs.length * 4:Nat):Int)))∧w'.ownsRow base 72 4 v xs.length ((mkS 4 mkSpot k xs.length).flatMap Spot.cells)∧Tch v.ownBlock.toList w w':=by
 obtain ⟨A,c,rfl⟩:=own_form h
 have H:=Lib.hid h
 clear h
 obtain ⟨V,hV⟩:∃ V,V=Value.slice A xs.length c:=⟨_,rfl⟩
 go_enter Tryz.func112,Tryz.ntmps112
 go_wp2
 go_loopw [1,5] (fun kk i wr=>∃ j:Nat,∃ m:Int,j≤xs.length∧0≤m∧m≤9223372036854775000∧kk=.int .i64 m∧i=.int .i64 j∧m=k + ((j * 4:Nat):Int)∧wr.ownsRow base 72 4 (.slice A xs.length c) xs.length ((mkS 4 mkSpot k j ++ xs.drop j).flatMap Spot.cells)∧Tch (Value.slice A xs.length c).ownBlock.toList w wr) (fun _ i _=>xs.length - (intOf i).toNat)
 case atStart=>exact ⟨0,k,Nat.zero_le _,h0,by omega,rfl,rfl,by simp,by simpa [mkS] using H.out,Tch.refl _ _⟩
 case round =>
  obtain ⟨j,m,hj,hm0,hm1,rfl,rfl,hm,hown,ht⟩:=hrel
  have HM:=Lib.hid hm
  by_cases hlt:j < xs.length
  ·have hm2:m≤9223372036854774000:=by omega
   clear hm
   obtain ⟨g,rfl⟩:∃ g,A=some ⟨g,0,none⟩:=by
    rcases hown.2 with ⟨hv,_⟩ | ⟨g,cap,cur,hv,_⟩
    ·have hv':=congrArg (fun v=>match v with | .slice _ m _=>m | _=>0) hv;simp at hv';omega
    ·cases hv;exact ⟨g,rfl⟩
   have hf:=hown.frozenAt
   obtain ⟨o0,ho0⟩:=own_room0 hown j hlt (by omega)
   obtain ⟨o1,ho1⟩:=own_room hown j 1 hlt (by omega)
   obtain ⟨o2,ho2⟩:=own_room hown j 2 hlt (by omega)
   obtain ⟨o3,ho3⟩:=own_room hown j 3 hlt (by omega)
   have hst:=storedL [.int .i64 (m),.int .i64 (m + 1),.int .i64 (m + 1 + 1),.int .i64 (m + 1 + 1 + 1)] _ wr (j * 4) hown
   have hmk:mkS 4 mkSpot k (j + 1)=mkS 4 mkSpot k j ++ [mkSpot m]:=by rw [mkS_snoc,HM.out]
   have hst2:=mix_store (f:=Spot.cells) (K:=4) (fun _=>rfl) (mkS_length 4 mkSpot j k) hlt (mkSpot m)
   rw [show Spot.cells (mkSpot m)=[.int .i64 (m),.int .i64 (m + 1),.int .i64 (m + 1 + 1),.int .i64 (m + 1 + 1 + 1)] from rfl,← hmk] at hst2
   rw [hst2] at hst
   clear hmk hst2
   have htc:=Tch.setW (show g∈(Value.slice (some ⟨g,0,none⟩) xs.length c).ownBlock.toList by simp [Value.ownBlock]) [.int .i64 (m),.int .i64 (m + 1),.int .i64 (m + 1 + 1),.int .i64 (m + 1 + 1 + 1)] wr (j * 4) ht
   have HST:=Lib.hid hst
   have HTC:=Lib.hid htc
   clear hst htc hown ht
   go_wp2
   go_roundw
   case rel=>exact ⟨j + 1,m + 1 + 1 + 1 + 1,hlt,by omega,by omega,rfl,by go_num,by have:=HM.out;omega,HST.out,HTC.out⟩
   case measure=>simp [intOf];omega
  ·obtain rfl:j=xs.length:=by omega
   rw [List.drop_length,List.append_nil] at hown
   clear hm
   go_wp2
   go_ret
   exact ⟨ret_int HM.out,hown,ht⟩
abbrev mkPair (m:Int):Pair:=⟨m,m + 1⟩
set_option maxHeartbeats 400000 in
theorem markPairS_any (v:Value) (xs:List Pair) (k:Int) (base:Nat) (w:World) (h:w.ownsRow base 165 2 v xs.length (xs.flatMap Pair.cells)) (hb:xs.length≤16777216) (h0:0≤k) (h1:k≤4294967296) :
  Calls Tryz.prog 108 #[v,.int .i64 k] w fun e w'=>e=.returned (.int .i64 (k + ((xs.length * 2:Nat):Int)))∧w'.ownsRow base 165 2 v xs.length ((mkS 2 mkPair k xs.length).flatMap Pair.cells)∧Tch v.ownBlock.toList w w':=by
 obtain ⟨A,c,rfl⟩:=own_form h
 have H:=Lib.hid h
 clear h
 obtain ⟨V,hV⟩:∃ V,V=Value.slice A xs.length c:=⟨_,rfl⟩
 go_enter Tryz.func108,Tryz.ntmps108
 go_wp2
 go_loopw [1,5] (fun kk i wr=>∃ j:Nat,∃ m:Int,j≤xs.length∧0≤m∧m≤9223372036854775000∧kk=.int .i64 m∧i=.int .i64 j∧m=k + ((j * 2:Nat):Int)∧wr.ownsRow base 165 2 (.slice A xs.length c) xs.length ((mkS 2 mkPair k j ++ xs.drop j).flatMap Pair.cells)∧Tch (Value.slice A xs.length c).ownBlock.toList w wr) (fun _ i _=>xs.length - (intOf i).toNat)
 case atStart=>exact ⟨0,k,Nat.zero_le _,h0,by omega,rfl,rfl,by simp,by simpa [mkS] using H.out,Tch.refl _ _⟩
 case round =>
  obtain ⟨j,m,hj,hm0,hm1,rfl,rfl,hm,hown,ht⟩:=hrel
  have HM:=Lib.hid hm
  by_cases hlt:j < xs.length
  ·have hm2:m≤9223372036854774000:=by omega
   clear hm
   obtain ⟨g,rfl⟩:∃ g,A=some ⟨g,0,none⟩:=by
    rcases hown.2 with ⟨hv,_⟩ | ⟨g,cap,cur,hv,_⟩
    ·have hv':=congrArg (fun v=>match v with | .slice _ m _=>m | _=>0) hv;simp at hv';omega
    ·cases hv;exact ⟨g,rfl⟩
   have hf:=hown.frozenAt
   obtain ⟨o0,ho0⟩:=own_room0 hown j hlt (by omega)
   obtain ⟨o1,ho1⟩:=own_room hown j 1 hlt (by omega)
   have hst:=storedL [.int .i64 (m),.int .i64 (m + 1)] _ wr (j * 2) hown
   have hmk:mkS 2 mkPair k (j + 1)=mkS 2 mkPair k j ++ [mkPair m]:=by rw [mkS_snoc,HM.out]
   have hst2:=mix_store (f:=Pair.cells) (K:=2) (fun _=>rfl) (mkS_length 2 mkPair j k) hlt (mkPair m)
   rw [show Pair.cells (mkPair m)=[.int .i64 (m),.int .i64 (m + 1)] from rfl,← hmk] at hst2
   rw [hst2] at hst
   clear hmk hst2
   have htc:=Tch.setW (show g∈(Value.slice (some ⟨g,0,none⟩) xs.length c).ownBlock.toList by simp [Value.ownBlock]) [.int .i64 (m),.int .i64 (m + 1)] wr (j * 2) ht
   have HST:=Lib.hid hst
   have HTC:=Lib.hid htc
   clear hst htc hown ht
   go_wp2
   go_roundw
   case rel=>exact ⟨j + 1,m + 1 + 1,hlt,by omega,by omega,rfl,by go_num,by have:=HM.out;omega,HST.out,HTC.out⟩
   case measure=>simp [intOf];omega
  ·obtain rfl:j=xs.length:=by omega
   rw [List.drop_length,List.append_nil] at hown
   clear hm
   go_wp2
   go_ret
   exact ⟨ret_int HM.out,hown,ht⟩
abbrev mkType (m:Int):GType:=⟨m,m + 1,m + 1 + 1,m + 1 + 1 + 1,m + 1 + 1 + 1 + 1,m + 1 + 1 + 1 + 1 + 1,m + 1 + 1 + 1 + 1 + 1 + 1⟩
set_option maxHeartbeats 400000 in
theorem markTypeS_any (v:Value) (xs:List GType) (k:Int) (base:Nat) (w:World) (h:w.ownsRow base 142 7 v xs.length (xs.flatMap GType.cells)) (hb:xs.length≤16777216) (h0:0≤k) (h1:k≤4294967296) :
  Calls Tryz.prog 109 #[v,.int .i64 k] w fun e w'=>e=.returned (.int .i64 (k + ((xs.length * 7:Nat):Int)))∧w'.ownsRow base 142 7 v xs.length ((mkS 7 mkType k xs.length).flatMap GType.cells)∧Tch v.ownBlock.toList w w':=by
 obtain ⟨A,c,rfl⟩:=own_form h
 have H:=Lib.hid h
 clear h
 obtain ⟨V,hV⟩:∃ V,V=Value.slice A xs.length c:=⟨_,rfl⟩
 go_enter Tryz.func109,Tryz.ntmps109
 go_wp2
 go_loopw [1,5] (fun kk i wr=>∃ j:Nat,∃ m:Int,j≤xs.length∧0≤m∧m≤9223372036854775000∧kk=.int .i64 m∧i=.int .i64 j∧m=k + ((j * 7:Nat):Int)∧wr.ownsRow base 142 7 (.slice A xs.length c) xs.length ((mkS 7 mkType k j ++ xs.drop j).flatMap GType.cells)∧Tch (Value.slice A xs.length c).ownBlock.toList w wr) (fun _ i _=>xs.length - (intOf i).toNat)
 case atStart=>exact ⟨0,k,Nat.zero_le _,h0,by omega,rfl,rfl,by simp,by simpa [mkS] using H.out,Tch.refl _ _⟩
 case round =>
  obtain ⟨j,m,hj,hm0,hm1,rfl,rfl,hm,hown,ht⟩:=hrel
  have HM:=Lib.hid hm
  by_cases hlt:j < xs.length
  ·have hm2:m≤9223372036854774000:=by omega
   clear hm
   obtain ⟨g,rfl⟩:∃ g,A=some ⟨g,0,none⟩:=by
    rcases hown.2 with ⟨hv,_⟩ | ⟨g,cap,cur,hv,_⟩
    ·have hv':=congrArg (fun v=>match v with | .slice _ m _=>m | _=>0) hv;simp at hv';omega
    ·cases hv;exact ⟨g,rfl⟩
   have hf:=hown.frozenAt
   obtain ⟨o0,ho0⟩:=own_room0 hown j hlt (by omega)
   obtain ⟨o1,ho1⟩:=own_room hown j 1 hlt (by omega)
   obtain ⟨o2,ho2⟩:=own_room hown j 2 hlt (by omega)
   obtain ⟨o3,ho3⟩:=own_room hown j 3 hlt (by omega)
   obtain ⟨o4,ho4⟩:=own_room hown j 4 hlt (by omega)
   obtain ⟨o5,ho5⟩:=own_room hown j 5 hlt (by omega)
   obtain ⟨o6,ho6⟩:=own_room hown j 6 hlt (by omega)
   have hst:=storedL [.int .i64 (m),.int .i64 (m + 1),.int .i64 (m + 1 + 1),.int .i64 (m + 1 + 1 + 1),.int .i64 (m + 1 + 1 + 1 + 1),.int .i64 (m + 1 + 1 + 1 + 1 + 1),.int .i64 (m + 1 + 1 + 1 + 1 + 1 + 1)] _ wr (j * 7) hown
   have hmk:mkS 7 mkType k (j + 1)=mkS 7 mkType k j ++ [mkType m]:=by rw [mkS_snoc,HM.out]
   have hst2:=mix_store (f:=GType.cells) (K:=7) (fun _=>rfl) (mkS_length 7 mkType j k) hlt (mkType m)
   rw [show GType.cells (mkType m)=[.int .i64 (m),.int .i64 (m + 1),.int .i64 (m + 1 + 1),.int .i64 (m + 1 + 1 + 1),.int .i64 (m + 1 + 1 + 1 + 1),.int .i64 (m + 1 + 1 + 1 + 1 + 1),.int .i64 (m + 1 + 1 + 1 + 1 + 1 + 1)] from rfl,← hmk] at hst2
   rw [hst2] at hst
   clear hmk hst2
   have htc:=Tch.setW (show g∈(Value.slice (some ⟨g,0,none⟩) xs.length c).ownBlock.toList by simp [Value.ownBlock]) [.int .i64 (m),.int .i64 (m + 1),.int .i64 (m + 1 + 1),.int .i64 (m + 1 + 1 + 1),.int .i64 (m + 1 + 1 + 1 + 1),.int .i64 (m + 1 + 1 + 1 + 1 + 1),.int .i64 (m + 1 + 1 + 1 + 1 + 1 + 1)] wr (j * 7) ht
   have HST:=Lib.hid hst
   have HTC:=Lib.hid htc
   clear hst htc hown ht
   go_wp2
   go_roundw
   case rel=>exact ⟨j + 1,m + 1 + 1 + 1 + 1 + 1 + 1 + 1,hlt,by omega,by omega,rfl,by go_num,by have:=HM.out;omega,HST.out,HTC.out⟩
   case measure=>simp [intOf];omega
  ·obtain rfl:j=xs.length:=by omega
   rw [List.drop_length,List.append_nil] at hown
   clear hm
   go_wp2
   go_ret
   exact ⟨ret_int HM.out,hown,ht⟩
abbrev mkItem (m:Int):Item:=⟨m,m + 1,m + 1 + 1,m + 1 + 1 + 1,m + 1 + 1 + 1 + 1,m + 1 + 1 + 1 + 1 + 1,m + 1 + 1 + 1 + 1 + 1 + 1⟩
set_option maxHeartbeats 400000 in
theorem markItemS_any (v:Value) (xs:List Item) (k:Int) (base:Nat) (w:World) (h:w.ownsRow base 152 7 v xs.length (xs.flatMap Item.cells)) (hb:xs.length≤16777216) (h0:0≤k) (h1:k≤4294967296) :
  Calls Tryz.prog 110 #[v,.int .i64 k] w fun e w'=>e=.returned (.int .i64 (k + ((xs.length * 7:Nat):Int)))∧w'.ownsRow base 152 7 v xs.length ((mkS 7 mkItem k xs.length).flatMap Item.cells)∧Tch v.ownBlock.toList w w':=by
 obtain ⟨A,c,rfl⟩:=own_form h
 have H:=Lib.hid h
 clear h
 obtain ⟨V,hV⟩:∃ V,V=Value.slice A xs.length c:=⟨_,rfl⟩
 go_enter Tryz.func110,Tryz.ntmps110
 go_wp2
 go_loopw [1,5] (fun kk i wr=>∃ j:Nat,∃ m:Int,j≤xs.length∧0≤m∧m≤9223372036854775000∧kk=.int .i64 m∧i=.int .i64 j∧m=k + ((j * 7:Nat):Int)∧wr.ownsRow base 152 7 (.slice A xs.length c) xs.length ((mkS 7 mkItem k j ++ xs.drop j).flatMap Item.cells)∧Tch (Value.slice A xs.length c).ownBlock.toList w wr) (fun _ i _=>xs.length - (intOf i).toNat)
 case atStart=>exact ⟨0,k,Nat.zero_le _,h0,by omega,rfl,rfl,by simp,by simpa [mkS] using H.out,Tch.refl _ _⟩
 case round =>
  obtain ⟨j,m,hj,hm0,hm1,rfl,rfl,hm,hown,ht⟩:=hrel
  have HM:=Lib.hid hm
  by_cases hlt:j < xs.length
  ·have hm2:m≤9223372036854774000:=by omega
   clear hm
   obtain ⟨g,rfl⟩:∃ g,A=some ⟨g,0,none⟩:=by
    rcases hown.2 with ⟨hv,_⟩ | ⟨g,cap,cur,hv,_⟩
    ·have hv':=congrArg (fun v=>match v with | .slice _ m _=>m | _=>0) hv;simp at hv';omega
    ·cases hv;exact ⟨g,rfl⟩
   have hf:=hown.frozenAt
   obtain ⟨o0,ho0⟩:=own_room0 hown j hlt (by omega)
   obtain ⟨o1,ho1⟩:=own_room hown j 1 hlt (by omega)
   obtain ⟨o2,ho2⟩:=own_room hown j 2 hlt (by omega)
   obtain ⟨o3,ho3⟩:=own_room hown j 3 hlt (by omega)
   obtain ⟨o4,ho4⟩:=own_room hown j 4 hlt (by omega)
   obtain ⟨o5,ho5⟩:=own_room hown j 5 hlt (by omega)
   obtain ⟨o6,ho6⟩:=own_room hown j 6 hlt (by omega)
   have hst:=storedL [.int .i64 (m),.int .i64 (m + 1),.int .i64 (m + 1 + 1),.int .i64 (m + 1 + 1 + 1),.int .i64 (m + 1 + 1 + 1 + 1),.int .i64 (m + 1 + 1 + 1 + 1 + 1),.int .i64 (m + 1 + 1 + 1 + 1 + 1 + 1)] _ wr (j * 7) hown
   have hmk:mkS 7 mkItem k (j + 1)=mkS 7 mkItem k j ++ [mkItem m]:=by rw [mkS_snoc,HM.out]
   have hst2:=mix_store (f:=Item.cells) (K:=7) (fun _=>rfl) (mkS_length 7 mkItem j k) hlt (mkItem m)
   rw [show Item.cells (mkItem m)=[.int .i64 (m),.int .i64 (m + 1),.int .i64 (m + 1 + 1),.int .i64 (m + 1 + 1 + 1),.int .i64 (m + 1 + 1 + 1 + 1),.int .i64 (m + 1 + 1 + 1 + 1 + 1),.int .i64 (m + 1 + 1 + 1 + 1 + 1 + 1)] from rfl,← hmk] at hst2
   rw [hst2] at hst
   clear hmk hst2
   have htc:=Tch.setW (show g∈(Value.slice (some ⟨g,0,none⟩) xs.length c).ownBlock.toList by simp [Value.ownBlock]) [.int .i64 (m),.int .i64 (m + 1),.int .i64 (m + 1 + 1),.int .i64 (m + 1 + 1 + 1),.int .i64 (m + 1 + 1 + 1 + 1),.int .i64 (m + 1 + 1 + 1 + 1 + 1),.int .i64 (m + 1 + 1 + 1 + 1 + 1 + 1)] wr (j * 7) ht
   have HST:=Lib.hid hst
   have HTC:=Lib.hid htc
   clear hst htc hown ht
   go_wp2
   go_roundw
   case rel=>exact ⟨j + 1,m + 1 + 1 + 1 + 1 + 1 + 1 + 1,hlt,by omega,by omega,rfl,by go_num,by have:=HM.out;omega,HST.out,HTC.out⟩
   case measure=>simp [intOf];omega
  ·obtain rfl:j=xs.length:=by omega
   rw [List.drop_length,List.append_nil] at hown
   clear hm
   go_wp2
   go_ret
   exact ⟨ret_int HM.out,hown,ht⟩
end Go.Proofs.YtioijfplbgpjpaaGreat
namespace Go.Proofs.YtioijfplbgpjpaaGreat
set_option linter.unusedVariables false
set_option linter.unusedSimpArgs false
set_option maxRecDepth 100000
open Go.RowKit Go.WideShapes Go.ChangeShapes Go.ChangeAt Go.Deep
open Go.ChangeMaps (open_string shut_string)
section
variable {H:Type} {enc:TypeId×Value→H} {P:Program}
end
section
variable {H:Type} {enc:TypeId×Value→H} {P:Program} {w:World} {held:Bool}
theorem tells_int {t:TypeId} {B:Nat} (ht:P.underlying t=some (.int .i64)):Tells enc P w held t B 1 (flat cI):=fun n cs y h _=>by
 obtain ⟨x,rfl,_,_⟩:=DataW.trod_int ht h
 exact ⟨x,rfl,rfl⟩
theorem trod_fields {e:TypeId} {fs:Array Field} {fuel:Nat} {cs:List Value} {x:DataW H×List MemPlace} (he:P.underlying e=some (.struct fs)) (hone:oneCellFields P fs=true) (hC:P.cellsOf e=fs.size)
  (h:DataW.trod enc P w 0 (fun _=>true) held fuel e cs=some x) :
  cs.length=fs.size∧∀ (j:Nat) (f:Field),fs[j]? = some f→∃ (n:Nat) (c:Value) (y:DataW H×List MemPlace),cs[j]? = some c∧(∀ p∈y.2,p∈x.2)∧DataW.trod enc P w 0 (fun _=>true) held n f.type [c]=some y:=by
 obtain ⟨ys,n',hn',hy,hlen,hyl,hf⟩:=DataW.trod_struct he h
 refine ⟨hlen.trans hC,fun j f hj=>?_⟩
 obtain ⟨ho,hk⟩:=hone_of hone j f hj
 have hjl:j < fs.size:=(Array.getElem?_eq_some_iff.1 hj).1
 have h1:=hf j f hj
 rw [ho,hk] at h1
 have hone':(cs.drop j).take 1=[cs[j]'(by omega)]:=by
  rw [List.drop_eq_getElem_cons (by omega)]
  rfl
 rw [hone'] at h1
 have hys:ys[j]? = some (ys[j]'(by omega)):=List.getElem?_eq_getElem (by omega)
 refine ⟨n',_,_,List.getElem?_eq_getElem (by omega),fun p hp=>?_,h1.trans hys⟩
 rw [hy]
 exact List.mem_flatMap.2 ⟨_,List.getElem_mem _,hp⟩
theorem trod_ints {e i:TypeId} {fs:Array Field} {fuel:Nat} {cs:List Value} {x:DataW H×List MemPlace} (he:P.underlying e=some (.struct fs)) (hone:oneCellFields P fs=true) (hC:P.cellsOf e=fs.size) (hi:P.underlying i=some (.int .i64)) (hall:∀ (j:Nat) (f:Field),fs[j]? = some f→f.type=i)
  (h:DataW.trod enc P w 0 (fun _=>true) held fuel e cs=some x):∃ ns:List Int,ns.length=fs.size∧cs=ns.map (Value.int .i64):=by
 obtain ⟨hl,hf⟩:=trod_fields he hone hC h
 obtain ⟨ns,h1,h2⟩:=list_of (Q:=fun j (n:Int)=>cs[j]? = some (.int .i64 n)) fs.size (fun j hj=>by
  obtain ⟨n,c,y,g1,_,g2⟩:=hf j _ (Array.getElem?_eq_getElem hj)
  rw [hall j _ (Array.getElem?_eq_getElem hj)] at g2
  obtain ⟨m,g3,_⟩:=DataW.trod_int hi g2
  injection g3 with g3
  exact ⟨m,by rw [g1,g3]⟩)
 refine ⟨ns,h1,List.ext_getElem? fun j=>?_⟩
 rcases Nat.lt_or_ge j fs.size with hj | hj
 ·obtain ⟨n,hn⟩:∃ n,ns[j]? = some n:=⟨_,List.getElem?_eq_getElem (by omega)⟩
  rw [List.getElem?_map,hn,h2 j n hn]
  rfl
 ·rw [List.getElem?_eq_none (by omega),List.getElem?_eq_none (by rw [List.length_map];omega)]
end
end Go.Proofs.YtioijfplbgpjpaaGreat
namespace Go.Proofs.YtioijfplbgpjpaaGreat
set_option linter.unusedVariables false
set_option linter.unusedSimpArgs false
set_option maxRecDepth 100000
open Go.RowKit Go.WideShapes Go.ChangeShapes Go.ChangeAt Go.Deep
set_option maxRecDepth 100000
theorem tells_Spot {H:Type} {enc:TypeId×Value→H} {w:World} {B:Nat} : Tells enc Tryz.prog w true 174 B 4 (flat Spot.cells):=fun n cs y h _=>by
 obtain ⟨ns,hl,rfl⟩:=trod_ints Tryz.underlying174 (by kernel_rfl) (by kernel_rfl) Tryz.underlying3 (fun j f hj=>by
  have hj':=(Array.getElem?_eq_some_iff.1 hj).1
  match j,hj' with
  |0,_=>simp at hj;rw [← hj]
  |1,_=>simp at hj;rw [← hj]
  |2,_=>simp at hj;rw [← hj]
  |3,_=>simp at hj;rw [← hj]
  |j + 4,h=>exact absurd h (by simp)) h
 match ns,hl with
 |[a0,a1,a2,a3],_=>exact ⟨⟨a0,a1,a2,a3⟩,rfl,rfl⟩
theorem tells_Pair {H:Type} {enc:TypeId×Value→H} {w:World} {B:Nat} : Tells enc Tryz.prog w true 167 B 2 (flat Pair.cells):=fun n cs y h _=>by
 obtain ⟨ns,hl,rfl⟩:=trod_ints Tryz.underlying167 (by kernel_rfl) (by kernel_rfl) Tryz.underlying3 (fun j f hj=>by
  have hj':=(Array.getElem?_eq_some_iff.1 hj).1
  match j,hj' with
  |0,_=>simp at hj;rw [← hj]
  |1,_=>simp at hj;rw [← hj]
  |j + 2,h=>exact absurd h (by simp)) h
 match ns,hl with
 |[a0,a1],_=>exact ⟨⟨a0,a1⟩,rfl,rfl⟩
theorem tells_Type {H:Type} {enc:TypeId×Value→H} {w:World} {B:Nat} : Tells enc Tryz.prog w true 169 B 7 (flat GType.cells):=fun n cs y h _=>by
 obtain ⟨ns,hl,rfl⟩:=trod_ints Tryz.underlying169 (by kernel_rfl) (by kernel_rfl) Tryz.underlying3 (fun j f hj=>by
  have hj':=(Array.getElem?_eq_some_iff.1 hj).1
  match j,hj' with
  |0,_=>simp at hj;rw [← hj]
  |1,_=>simp at hj;rw [← hj]
  |2,_=>simp at hj;rw [← hj]
  |3,_=>simp at hj;rw [← hj]
  |4,_=>simp at hj;rw [← hj]
  |5,_=>simp at hj;rw [← hj]
  |6,_=>simp at hj;rw [← hj]
  |j + 7,h=>exact absurd h (by simp)) h
 match ns,hl with
 |[a0,a1,a2,a3,a4,a5,a6],_=>exact ⟨⟨a0,a1,a2,a3,a4,a5,a6⟩,rfl,rfl⟩
theorem tells_Item {H:Type} {enc:TypeId×Value→H} {w:World} {B:Nat} : Tells enc Tryz.prog w true 171 B 7 (flat Item.cells):=fun n cs y h _=>by
 obtain ⟨ns,hl,rfl⟩:=trod_ints Tryz.underlying171 (by kernel_rfl) (by kernel_rfl) Tryz.underlying3 (fun j f hj=>by
  have hj':=(Array.getElem?_eq_some_iff.1 hj).1
  match j,hj' with
  |0,_=>simp at hj;rw [← hj]
  |1,_=>simp at hj;rw [← hj]
  |2,_=>simp at hj;rw [← hj]
  |3,_=>simp at hj;rw [← hj]
  |4,_=>simp at hj;rw [← hj]
  |5,_=>simp at hj;rw [← hj]
  |6,_=>simp at hj;rw [← hj]
  |j + 7,h=>exact absurd h (by simp)) h
 match ns,hl with
 |[a0,a1,a2,a3,a4,a5,a6],_=>exact ⟨⟨a0,a1,a2,a3,a4,a5,a6⟩,rfl,rfl⟩
end Go.Proofs.YtioijfplbgpjpaaGreat
namespace Go.Proofs.YtioijfplbgpjpaaGreat
set_option linter.unusedVariables false
set_option linter.unusedSimpArgs false
set_option maxRecDepth 100000
open Go.RowKit
end Go.Proofs.YtioijfplbgpjpaaGreat
namespace Go.Proofs.YtioijfplbgpjpaaGreat
set_option linter.unusedVariables false
set_option linter.unusedSimpArgs false
set_option maxRecDepth 100000
open Go.RowKit
end Go.Proofs.YtioijfplbgpjpaaGreat
namespace Go.Proofs.YtioijfplbgpjpaaGreat
set_option linter.unusedVariables false
set_option linter.unusedSimpArgs false
set_option maxRecDepth 100000
open Go.RowKit Go.WideShapes Go.ChangeShapes Go.ChangeAt Go.Deep
theorem nodup3 {f1 f2 f3:List Nat} {a b:Nat} (h1:f1.Nodup) (h2:f2.Nodup) (h3:f3.Nodup) (l1:∀ k∈f1,k < a) (l2:∀ k∈f2,a≤k∧k < b) (l3:∀ k∈f3,b≤k) (hab:a≤b):(f1 ++ (f2 ++ f3)).Nodup:=by
 rw [List.nodup_append,List.nodup_append]
 refine ⟨h1,⟨h2,h3,fun x hx y hy e=>?_⟩,fun x hx y hy e=>?_⟩
 ·have:=(l2 x hx).2;have:=l3 y hy;omega
 ·have:=l1 x hx
  rcases List.mem_append.1 hy with hy | hy
  ·have:=(l2 y hy).1;omega
  ·have:=l3 y hy;omega
set_option maxRecDepth 100000 in
set_option maxHeartbeats 1000000 in
theorem toRequest_any (v:Value) (r:Request) (w:World) (h:RReq 16777216 w w.heap.size v r) :
  Calls Tryz.prog 22 #[v] w fun e w'=>∃ v' fp,e=.returned v'∧OReq w' w.heap.size v' r fp∧Below w.heap.size w w':=by
 obtain ⟨A1,c1,A2,c2,A3,c3,rfl,⟨H1,H2,H3⟩,_⟩:=h.opn
 obtain ⟨W0,hW0⟩:∃ W,W=lay w [.cells (cR r A1 c1 A2 c2 A3 c3) 28,.cells cZ 41,.cells #[.int .i64 r.way,.int .i64 0,.int .i64 0,.int .i64 0,.int .i64 0,.int .i64 0,.slice none 0 0,.slice none 0 0,.int .i64 0,.slice none 0 0] 41]:=⟨_,rfl⟩
 have hx0:W0.heap[w.heap.size]? = some (.cells (cR r A1 c1 A2 c2 A3 c3) 28 (0,0)):=by rw [hW0];exact lay_at _ w 0 _ rfl
 have hx1:W0.heap[w.heap.size + 1]? = some (.cells cZ 41 (0,0)):=by rw [hW0];exact lay_at _ w 1 _ rfl
 have hx2:W0.heap[w.heap.size + 1 + 1]? = some (.cells #[.int .i64 r.way,.int .i64 0,.int .i64 0,.int .i64 0,.int .i64 0,.int .i64 0,.slice none 0 0,.slice none 0 0,.int .i64 0,.slice none 0 0] 41 (0,0)):=by rw [hW0];exact lay_at _ w 2 _ rfl
 have hlow:Below w.heap.size w W0:=by rw [hW0];exact lay_below _ _
 have hsz:W0.heap.size=w.heap.size + 3:=by rw [hW0];exact lay_heap _ _
 have HX0:=Lib.hid hx0
 have HX1:=Lib.hid hx1
 have HX2:=Lib.hid hx2
 have HLW:=Lib.hid hlow
 have HSZ:=Lib.hid hsz
 have HW0:=Lib.hid hW0
 clear h hx0 hx1 hx2 hlow hsz hW0
 go_enter Tryz.func22,Tryz.ntmps22
 go_wp2_with fail
 refine (toPallet_any r.pallet _).mono ?_
 rintro e w2 ⟨rfl,hb2⟩
 have hb2':Below W0.heap.size W0 w2:=by rw [HW0.out];exact hb2
 have a2:=(AtB.here (B:=w.heap.size + 3) HX2.out).next hb2' (Nat.le_of_eq HSZ.out.symm)
 have A2':=Lib.hid a2
 have k1:=a2.cells
 have k2:=a2.free
 have k3:=a2.oldc (by omega) (by omega) HX0.out
 have k4:=a2.lt
 clear a2 hb2 hb2'
 go_wp2_with fail
 have a3:AtB (w.heap.size + 3) W0 (w.heap.size + 1 + 1) 41 #[.int .i64 r.way,.int .i64 r.pallet.w,.int .i64 r.pallet.d,.int .i64 r.pallet.h,.int .i64 r.pallet.gram,.int .i64 r.classes,.slice none 0 0,.slice none 0 0,.int .i64 0,.slice none 0 0] _:=((((A2'.out.store 1 (.int .i64 r.pallet.w)).store 2 (.int .i64 r.pallet.d)).store 3 (.int .i64 r.pallet.h)).store 4 (.int .i64 r.pallet.gram)).store 5 (.int .i64 r.classes)
 refine (toPairS_any _ r.pairs _ (H1.out.next (flat_mono _) (a3.low HLW.out (by omega) (by omega)))).mono ?_
 rintro e w4 ⟨u1,rfl,ho1,hb4⟩
 obtain ⟨B1,d1,rfl,_⟩:=own_form2 ho1
 have a4:=a3.next hb4 (Nat.le_of_eq HSZ.out.symm)
 have hs4:=a3.size
 have A4':=Lib.hid a4
 have HO1:=Lib.hid (own_base ho1 (B':=w.heap.size + 3) (by have:=HSZ.out;omega))
 clear k1 k2 k3 k4
 have k1:=a4.cells
 have k2:=a4.free
 have k3:=a4.oldc (by omega) (by omega) HX0.out
 have k4:=a4.lt
 clear a3 a4 hb4 ho1 hs4
 go_wp2_with fail
 have a5:AtB (w.heap.size + 3) W0 (w.heap.size + 1 + 1) 41 #[.int .i64 r.way,.int .i64 r.pallet.w,.int .i64 r.pallet.d,.int .i64 r.pallet.h,.int .i64 r.pallet.gram,.int .i64 r.classes,.slice B1 r.pairs.length d1,.slice none 0 0,.int .i64 0,.slice none 0 0] _:=A4'.out.store 6 (.slice B1 r.pairs.length d1)
 refine (toTypeS_any _ r.types _ (H2.out.next (flat_mono _) (a5.low HLW.out (by omega) (by omega)))).mono ?_
 rintro e w6 ⟨u2,rfl,ho2,hb6⟩
 obtain ⟨B2,d2,rfl,_⟩:=own_form2 ho2
 have a6:=a5.next hb6 (Nat.le_of_eq HSZ.out.symm)
 have hf1:=HO1.out.lt
 have HP1:=Lib.hid (own_block (w':=w6) HO1.out (fun k hk=>(hb6.block k (by have:=(hf1 k hk).2;simpa [World.setCell] using this)).trans (Below.heap_setCell _ _ _ _ (by have:=(hf1 k hk).1;show k ≠ w.heap.size + 1 + 1;omega))))
 have HL1:=Lib.hid (fun k (hk:Value.ownBlock (.slice B1 r.pairs.length d1)=some k)=>(⟨(hf1 k hk).1,(hf1 k hk).2⟩:w.heap.size + 3≤k∧k < w4.heap.size))
 have HS6:=Lib.hid (show w4.heap.size≤w6.heap.size by have:=hb6.size;simpa [World.setCell] using this)
 have HO2:=Lib.hid (own_base ho2 (B':=w4.heap.size) (by simp [World.setCell]))
 have A6':=Lib.hid a6
 have HZ4:=Lib.hid (show w.heap.size + 3≤w4.heap.size by have:=A4'.out.size;have:=HSZ.out;omega)
 clear k1 k2 k3 k4
 have k1:=a6.cells
 have k2:=a6.free
 have k3:=a6.oldc (by omega) (by omega) HX0.out
 have k4:=a6.lt
 clear a5 a6 hb6 ho2 hf1
 go_wp2_with fail
 have a7:AtB (w.heap.size + 3) W0 (w.heap.size + 1 + 1) 41 #[.int .i64 r.way,.int .i64 r.pallet.w,.int .i64 r.pallet.d,.int .i64 r.pallet.h,.int .i64 r.pallet.gram,.int .i64 r.classes,.slice B1 r.pairs.length d1,.slice B2 r.types.length d2,.int .i64 r.master,.slice none 0 0] _:=(A6'.out.store 7 (.slice B2 r.types.length d2)).store 8 (.int .i64 r.master)
 refine (toItemS_any _ r.items _ (H3.out.next (flat_mono _) (a7.low HLW.out (by omega) (by omega)))).mono ?_
 rintro e w8 ⟨u3,rfl,ho3,hb8⟩
 obtain ⟨B3,d3,rfl,_⟩:=own_form2 ho3
 have a8:=a7.next hb8 (Nat.le_of_eq HSZ.out.symm)
 have hf2:=HO2.out.lt
 have hne:∀ k,w.heap.size + 3≤k→k < w6.heap.size→w8.heap[k]? = w6.heap[k]?:=fun k h1 h2=>(hb8.block k (by simpa [World.setCell] using h2)).trans ((Below.heap_setCell _ _ _ _ (by show k ≠ w.heap.size + 1 + 1;omega)).trans (Below.heap_setCell _ _ _ _ (by show k ≠ w.heap.size + 1 + 1;omega)))
 have HQ1:=Lib.hid (own_block (w':=w8) HP1.out (fun k hk=>hne k (HL1.out k hk).1 (Nat.lt_of_lt_of_le (HL1.out k hk).2 HS6.out)))
 have HQ2:=Lib.hid (own_block (w':=w8) HO2.out (fun k hk=>hne k (Nat.le_trans HZ4.out (hf2 k hk).1) (hf2 k hk).2))
 have HL2:=Lib.hid (fun k (hk:Value.ownBlock (.slice B2 r.types.length d2)=some k)=>(⟨(hf2 k hk).1,(hf2 k hk).2⟩:w4.heap.size≤k∧k < w6.heap.size))
 have HQ3:=Lib.hid (own_base ho3 (B':=w6.heap.size) (by simp [World.setCell]))
 have HS8:=Lib.hid (show w6.heap.size≤w8.heap.size by have:=hb8.size;simpa [World.setCell] using this)
 have A8':=Lib.hid a8
 clear k1 k2 k3 k4 hne
 have k1:=a8.cells
 have k2:=a8.free
 have k4:=a8.lt
 have m1:=a8.oldc (b:=w.heap.size + 1) (by omega) (by omega) HX1.out
 have m2:=a8.oldf (b:=w.heap.size + 1) (by omega) (by omega) HX1.out
 clear a7 a8 hb8 ho3 hf2
 go_wp2
 refine bodyPost_ret (v:=.agg #[.int .i64 r.way,.int .i64 r.pallet.w,.int .i64 r.pallet.d,.int .i64 r.pallet.h,.int .i64 r.pallet.gram,.int .i64 r.classes,.slice B1 r.pairs.length d1,.slice B2 r.types.length d2,.int .i64 r.master,.slice B3 r.items.length d3]) (by simp [results,Tryz.results22,go_sem,m1,m2]) rfl ?_
 have hk:∀ b,b ≠ w.heap.size + 1 + 1→b ≠ w.heap.size + 1→(setW (w8.setCell ⟨w.heap.size + 1 + 1,9,none⟩ (.slice B3 r.items.length d3)) (w.heap.size + 1) 0 [.int .i64 r.way,.int .i64 r.pallet.w,.int .i64 r.pallet.d,.int .i64 r.pallet.h,.int .i64 r.pallet.gram,.int .i64 r.classes,.slice B1 r.pairs.length d1,.slice B2 r.types.length d2,.int .i64 r.master,.slice B3 r.items.length d3]).heap[b]? = w8.heap[b]?:=fun b h1 h2=>(heap_setW h2 _ _ 0).trans (Below.heap_setCell _ _ _ _ h1)
 change ∃ v' fp,_=Ending.returned v'∧OReq (setW (w8.setCell ⟨w.heap.size + 1 + 1,9,none⟩ (.slice B3 r.items.length d3)) (w.heap.size + 1) 0 [.int .i64 r.way,.int .i64 r.pallet.w,.int .i64 r.pallet.d,.int .i64 r.pallet.h,.int .i64 r.pallet.gram,.int .i64 r.classes,.slice B1 r.pairs.length d1,.slice B2 r.types.length d2,.int .i64 r.master,.slice B3 r.items.length d3]) w.heap.size v' r fp∧Below w.heap.size w (setW (w8.setCell ⟨w.heap.size + 1 + 1,9,none⟩ (.slice B3 r.items.length d3)) (w.heap.size + 1) 0 [.int .i64 r.way,.int .i64 r.pallet.w,.int .i64 r.pallet.d,.int .i64 r.pallet.h,.int .i64 r.pallet.gram,.int .i64 r.classes,.slice B1 r.pairs.length d1,.slice B2 r.types.length d2,.int .i64 r.master,.slice B3 r.items.length d3])
 have l3:=HQ3.out.lt
 have hz4:=HZ4.out
 have hs6:=HS6.out
 refine ⟨_,_,rfl,⟨_,_,_,_,_,_,rfl,((OF.mk HQ1.out).base (B:=w.heap.size) (by omega)).keep (fun b hb=>hk b ?_ ?_),((OF.mk HQ2.out).base (B:=w.heap.size) (by omega)).keep (fun b hb=>hk b ?_ ?_),((OF.mk HQ3.out).base (B:=w.heap.size) (by omega)).keep (fun b hb=>hk b ?_ ?_),rfl,nodup3 (OF.mk HQ1.out).nodup (OF.mk HQ2.out).nodup (OF.mk HQ3.out).nodup (fun k hk=>(HL1.out k (ownBlock_mem hk)).2) (fun k hk=>HL2.out k (ownBlock_mem hk)) (fun k hk=>(l3 k (ownBlock_mem hk)).1) hs6⟩,below_setW (((A8'.out.store 9 (.slice B3 r.items.length d3)).low HLW.out (by omega) (by omega))) (by omega) _ _⟩
 ·have:=HL1.out b (ownBlock_mem hb);omega
 ·have:=HL1.out b (ownBlock_mem hb);omega
 ·have:=HL2.out b (ownBlock_mem hb);omega
 ·have:=HL2.out b (ownBlock_mem hb);omega
 ·have:=l3 b (ownBlock_mem hb);omega
 ·have:=l3 b (ownBlock_mem hb);omega
set_option maxHeartbeats 1000000 in
theorem szRequest_any (v:Value) (r:Request) (left:Int) (w:World) (h:RReq 9223372036854775807 w w.heap.size v r) (h0:0≤left) (h1:left≤1048576) :
  Calls Tryz.prog 19 #[v,.int .i64 left] w fun e w'=>e=.returned (.int .i64 (szR left (r.bulk:Nat)))∧Below w.heap.size w w':=by
 obtain ⟨A1,c1,A2,c2,A3,c3,rfl,_,hb1,hb2,hb3,_⟩:=h.opn
 have hW:Below w.heap.size w (w.alloc (.cells (cR r A1 c1 A2 c2 A3 c3) 28)):=(by repeat' with_reducible first | assumption | exact bR | apply bD | apply bA | apply bC | apply bN | simp <;> omega)
 have HW:=Lib.hid hW
 have z1:=fun W=>szPairS_any A1 r.pairs.length c1 left W (by unfold maxLen;omega) h0 h1
 clear h hW
 by_cases n1:left < r.pairs.length
 ·have HR:=Lib.hid (show szR left (r.bulk:Nat) = -1 by unfold szR Request.bulk;rw [if_pos (by omega)])
  rw [show szR left r.pairs.length = -1 by unfold szR;rw [if_pos n1]] at z1
  have Z1:=Lib.hid z1
  clear z1 n1
  go_enter Tryz.func19,Tryz.ntmps19
  go_wp2_with (go_at_call 84;refine (Z1.out _).mono ?_;rintro e w' ⟨rfl,rfl⟩)
  go_ret
  exact ⟨ret_int HR.out.symm,HW.out⟩
 rw [show szR left r.pairs.length=left - r.pairs.length by unfold szR;rw [if_neg n1]] at z1
 obtain ⟨l2,hl2⟩:∃ l,l=left - (r.pairs.length:Int):=⟨_,rfl⟩
 have g0:0≤l2:=by omega
 have g1:l2≤1048576:=by omega
 rw [← hl2] at z1
 have Z1:=Lib.hid z1
 have z2:=fun W=>szTypeS_any A2 r.types.length c2 l2 W (by unfold maxLen;omega) g0 g1
 by_cases n2:l2 < r.types.length
 ·have HR:=Lib.hid (show szR left (r.bulk:Nat) = -1 by unfold szR Request.bulk;rw [if_pos (by omega)])
  rw [show szR l2 r.types.length = -1 by unfold szR;rw [if_pos n2]] at z2
  have Z2:=Lib.hid z2
  clear z1 z2 n1 n2 hl2
  go_enter Tryz.func19,Tryz.ntmps19
  go_wp2_with (first | (go_at_call 84;refine (Z1.out _).mono ?_;rintro e w' ⟨rfl,rfl⟩) | (go_at_call 85;refine (Z2.out _).mono ?_;rintro e w' ⟨rfl,rfl⟩))
  go_ret
  exact ⟨ret_int HR.out.symm,HW.out⟩
 rw [show szR l2 r.types.length=l2 - r.types.length by unfold szR;rw [if_neg n2]] at z2
 obtain ⟨l3,hl3⟩:∃ l,l=l2 - (r.types.length:Int):=⟨_,rfl⟩
 have g2:0≤l3:=by omega
 have g3:l3≤1048576:=by omega
 rw [← hl3] at z2
 have Z2:=Lib.hid z2
 have z3:=fun W=>szItemS_any A3 r.items.length c3 l3 W (by unfold maxLen;omega) g2 g3
 by_cases n3:l3 < r.items.length
 ·have HR:=Lib.hid (show szR left (r.bulk:Nat) = -1 by unfold szR Request.bulk;rw [if_pos (by omega)])
  rw [show szR l3 r.items.length = -1 by unfold szR;rw [if_pos n3]] at z3
  have Z3:=Lib.hid z3
  clear z1 z2 z3 n1 n2 n3 hl2 hl3
  go_enter Tryz.func19,Tryz.ntmps19
  go_wp2_with (first | (go_at_call 84;refine (Z1.out _).mono ?_;rintro e w' ⟨rfl,rfl⟩) | (go_at_call 85;refine (Z2.out _).mono ?_;rintro e w' ⟨rfl,rfl⟩) | (go_at_call 86;refine (Z3.out _).mono ?_;rintro e w' ⟨rfl,rfl⟩))
  go_ret
  exact ⟨ret_int HR.out.symm,HW.out⟩
 rw [show szR l3 r.items.length=l3 - r.items.length by unfold szR;rw [if_neg n3]] at z3
 obtain ⟨l4,hl4⟩:∃ l,l=l3 - (r.items.length:Int):=⟨_,rfl⟩
 have g4:0≤l4:=by omega
 have HR:=Lib.hid (show szR left (r.bulk:Nat)=l4 by unfold szR Request.bulk;rw [if_neg (by omega)];omega)
 rw [← hl4] at z3
 have Z3:=Lib.hid z3
 clear z1 z2 z3 n1 n2 n3 hl2 hl3 hl4
 go_enter Tryz.func19,Tryz.ntmps19
 go_wp2_with (first | (go_at_call 84;refine (Z1.out _).mono ?_;rintro e w' ⟨rfl,rfl⟩) | (go_at_call 85;refine (Z2.out _).mono ?_;rintro e w' ⟨rfl,rfl⟩) | (go_at_call 86;refine (Z3.out _).mono ?_;rintro e w' ⟨rfl,rfl⟩))
 go_ret
 exact ⟨ret_int HR.out.symm,HW.out⟩
theorem req_eq (r q:Request):decide (r=q)=(decide (r.way=q.way) && decide (r.pallet=q.pallet) && decide (r.classes=q.classes) && decide (r.pairs=q.pairs) && decide (r.types=q.types) && decide (r.master=q.master) && decide (r.items=q.items)):=by
 obtain ⟨a,b,c,d,e,f,g⟩:=r
 obtain ⟨a',b',c',d',e',f',g'⟩:=q
 rw [Bool.eq_iff_iff]
 simp
 constructor
 ·rintro ⟨h1,h2,h3,h4,h5,h6,h7⟩;exact ⟨⟨⟨⟨⟨⟨h1,h2⟩,h3⟩,h4⟩,h5⟩,h6⟩,h7⟩
 ·rintro ⟨⟨⟨⟨⟨⟨h1,h2⟩,h3⟩,h4⟩,h5⟩,h6⟩,h7⟩;exact ⟨h1,h2,h3,h4,h5,h6,h7⟩
set_option maxHeartbeats 1000000 in
theorem eqRequest_any (v u:Value) (r q:Request) (w:World) (h:RReq 16777216 w w.heap.size v r) (h2:RReq 16777216 w w.heap.size u q) :
  Calls Tryz.prog 25 #[v,u] w fun e w'=>e=.returned (.bool (decide (r=q)))∧Below w.heap.size w w':=by
 obtain ⟨A1,c1,A2,c2,A3,c3,rfl,⟨H1,H2,H3⟩,_⟩:=h.opn
 obtain ⟨B1,d1,B2,d2,B3,d3,rfl,⟨K1,K2,K3⟩,_⟩:=h2.opn
 have hq0:=lay_box0 w [.cells (cR r A1 c1 A2 c2 A3 c3) 41,.cells (cR q B1 d1 B2 d2 B3 d3) 41] _ _ rfl
 have hq1:=lay_box w [.cells (cR r A1 c1 A2 c2 A3 c3) 41,.cells (cR q B1 d1 B2 d2 B3 d3) 41] 1 _ _ rfl
 have HL:=Lib.hid (lay_low w [.cells (cR r A1 c1 A2 c2 A3 c3) 41,.cells (cR q B1 d1 B2 d2 B3 d3) 41])
 have E1:=extC (lay_le w [.cells (cR r A1 c1 A2 c2 A3 c3) 41,.cells (cR q B1 d1 B2 d2 B3 d3) 41]) fun X=>eqPallet_any r.pallet q.pallet X.world
 have E2:=extC (lay_le w [.cells (cR r A1 c1 A2 c2 A3 c3) 41,.cells (cR q B1 d1 B2 d2 B3 d3) 41]) fun X=>eqPairS_any _ _ r.pairs q.pairs X.world (H1.out.next (flat_mono _) (HL.out X)) (K1.out.next (flat_mono _) (HL.out X))
 have E3:=extC (lay_le w [.cells (cR r A1 c1 A2 c2 A3 c3) 41,.cells (cR q B1 d1 B2 d2 B3 d3) 41]) fun X=>eqTypeS_any _ _ r.types q.types X.world (H2.out.next (flat_mono _) (HL.out X)) (K2.out.next (flat_mono _) (HL.out X))
 have E4:=extC (lay_le w [.cells (cR r A1 c1 A2 c2 A3 c3) 41,.cells (cR q B1 d1 B2 d2 B3 d3) 41]) fun X=>eqItemS_any _ _ r.items q.items X.world (H3.out.next (flat_mono _) (HL.out X)) (K3.out.next (flat_mono _) (HL.out X))
 have HD:=Lib.hid (req_eq r q)
 obtain ⟨b1,hb1⟩:∃ zz,decide (r.pallet=q.pallet)=zz:=⟨_,rfl⟩;have HHb1:=Lib.hid hb1;rw [hb1] at E1 HD;clear hb1
 obtain ⟨b2,hb2⟩:∃ zz,decide (r.pairs=q.pairs)=zz:=⟨_,rfl⟩;have HHb2:=Lib.hid hb2;rw [hb2] at E2 HD;clear hb2
 obtain ⟨b3,hb3⟩:∃ zz,decide (r.types=q.types)=zz:=⟨_,rfl⟩;have HHb3:=Lib.hid hb3;rw [hb3] at E3 HD;clear hb3
 obtain ⟨b4,hb4⟩:∃ zz,decide (r.items=q.items)=zz:=⟨_,rfl⟩;have HHb4:=Lib.hid hb4;rw [hb4] at E4 HD;clear hb4
 go_enter Tryz.func25,Tryz.ntmps25
 go_wp2_with (first | (go_at_call 98;(first | refine (E1.out _).mono ?_ | refine (E1.out (Ext.here _ _)).mono ?_);rintro e w' ⟨rfl,Y,rfl⟩) | (go_at_call 99;(first | refine (E2.out _).mono ?_ | refine (E2.out (Ext.here _ _)).mono ?_);rintro e w' ⟨rfl,Y,rfl⟩) | (go_at_call 100;(first | refine (E3.out _).mono ?_ | refine (E3.out (Ext.here _ _)).mono ?_);rintro e w' ⟨rfl,Y,rfl⟩) | (go_at_call 101;(first | refine (E4.out _).mono ?_ | refine (E4.out (Ext.here _ _)).mono ?_);rintro e w' ⟨rfl,Y,rfl⟩))
 all_goals go_ret
 all_goals go_light
 all_goals (try simp only [Bool.not_eq_true',Bool.not_eq_false'] at *)
 all_goals exact ⟨ret_bool (by rw [HD.out];simp_all),by first | exact HL.out _ | (repeat' with_reducible first | assumption | exact bR | apply bD | apply bA | apply bC | apply bN | simp <;> omega)⟩
def cntR (r:Request):Nat:=r.pairs.length * 2 + r.types.length * 7 + r.items.length * 7
theorem cntR_le (r:Request):cntR r≤7 * r.bulk:=by unfold cntR Request.bulk;omega
def mkR (k:Int) (r:Request):Request:={ r with pairs:=mkS 2 mkPair k r.pairs.length,types:=mkS 7 mkType (k + ((r.pairs.length * 2:Nat):Int)) r.types.length,items:=mkS 7 mkItem (k + ((r.pairs.length * 2:Nat):Int) + ((r.types.length * 7:Nat):Int)) r.items.length }
set_option maxRecDepth 100000 in
set_option maxHeartbeats 1000000 in
theorem markRequest_any (v:Value) (r:Request) (fp:List Nat) (k:Int) (base:Nat) (w:World) (h:OReq w base v r fp) (hb:r.bulk≤2097152) (h0:0≤k) (h1:k≤1073741824) :
  Calls Tryz.prog 32 #[v,.int .i64 k] w fun e w'=>e=.returned (.int .i64 (k + (cntR r:Nat)))∧OReq w' base v (mkR k r) fp∧Tch fp w w':=by
 have hlt:=h.lt
 obtain ⟨vp,vt,vi,f1,f2,f3,rfl,o1,o2,o3,rfl,hn⟩:=h
 obtain ⟨A1,c1,rfl,_⟩:=o1.form
 obtain ⟨A2,c2,rfl,_⟩:=o2.form
 obtain ⟨A3,c3,rfl,_⟩:=o3.form
 have hbl:r.pairs.length≤2097152∧r.types.length≤2097152∧r.items.length≤2097152:=by unfold Request.bulk at hb;omega
 obtain ⟨hb1,hb2,hb3⟩:=hbl
 have hW:Below w.heap.size w (w.alloc (.cells (cR r A1 c1 A2 c2 A3 c3) 41)):=(by repeat' with_reducible first | assumption | exact bR | apply bD | apply bA | apply bC | apply bN | simp <;> omega)
 have hn2:=hn
 rw [List.nodup_append,List.nodup_append] at hn2
 obtain ⟨_,⟨_,_,d23⟩,d1⟩:=hn2
 have HD1:=Lib.hid (fun b (h1:b∈f1) (h2:b∈f2 ++ f3)=>d1 b h1 b h2 rfl)
 have HD2:=Lib.hid (fun b (h1:b∈f2) (h2:b∈f3)=>d23 b h1 b h2 rfl)
 have HN:=Lib.hid hn
 have L1:=Lib.hid o1.lt
 have L2:=Lib.hid o2.lt
 have L3:=Lib.hid o3.lt
 have P1:=Lib.hid (o1.next hW)
 have P2:=Lib.hid (o2.next hW)
 have P3:=Lib.hid (o3.next hW)
 have HX:=Lib.hid (heap_alloc_new w (.cells (cR r A1 c1 A2 c2 A3 c3) 41))
 have HT0:=Lib.hid (Tch.of hW (f1 ++ (f2 ++ f3)))
 clear hn d23 d1 o1 o2 o3 hW hlt
 go_enter Tryz.func32,Tryz.ntmps32
 go_wp2_with fail
 refine (markPairS_any _ r.pairs k base _ P1.out.1 (by omega) h0 (by omega)).mono ?_
 rintro e w2 ⟨rfl,q1,t1⟩
 rw [← P1.out.2] at t1
 have Q1:=Lib.hid (show OF Pair.cells 165 2 w2 base _ (mkS 2 mkPair k r.pairs.length) f1 from ⟨by rw [mkS_length];exact q1,P1.out.2⟩)
 have P2:=Lib.hid (P2.out.tch t1 (fun b h2 h1=>HD1.out b h1 (by simp [h2])))
 have P3:=Lib.hid (P3.out.tch t1 (fun b h2 h1=>HD1.out b h1 (by simp [h2])))
 have HX:=Lib.hid ((t1.block w.heap.size (by simp) (fun hm=>by have:=(L1.out _ hm).2;omega)).trans HX.out)
 have HT:=Lib.hid (HT0.out.trans (t1.sub (fun k hk=>by simp [hk])))
 have hx:=fun j=>cell_of_row _ _ j _ _ (0,0) HX.out
 have hlt2:=lt_of_block HX.out
 clear q1 t1
 go_wp2_with fail
 refine (markTypeS_any _ r.types _ base _ P2.out.1 (by omega) (by omega) (by omega)).mono ?_
 rintro e w3 ⟨rfl,q2,t2⟩
 rw [← P2.out.2] at t2
 have Q2:=Lib.hid (show OF GType.cells 142 7 w3 base _ (mkS 7 mkType (k + ((r.pairs.length * 2:Nat):Int)) r.types.length) f2 from ⟨by rw [mkS_length];exact q2,P2.out.2⟩)
 have Q1:=Lib.hid (Q1.out.tch t2 (fun b h1 h2=>HD1.out b h1 (by simp [h2])))
 have P3:=Lib.hid (P3.out.tch t2 (fun b h3 h2=>HD2.out b h2 h3))
 have HX:=Lib.hid ((t2.block w.heap.size hlt2 (fun hm=>by have:=(L2.out _ hm).2;omega)).trans HX.out)
 have HT:=Lib.hid (HT.out.trans (t2.sub (fun k hk=>by simp [hk])))
 clear hx hlt2
 have hx:=fun j=>cell_of_row _ _ j _ _ (0,0) HX.out
 have hlt2:=lt_of_block HX.out
 clear q2 t2
 go_wp2_with fail
 refine (markItemS_any _ r.items _ base _ P3.out.1 (by omega) (by omega) (by omega)).mono ?_
 rintro e w4 ⟨rfl,q3,t3⟩
 rw [← P3.out.2] at t3
 have Q3:=Lib.hid (show OF Item.cells 152 7 w4 base _ (mkS 7 mkItem (k + ((r.pairs.length * 2:Nat):Int) + ((r.types.length * 7:Nat):Int)) r.items.length) f3 from ⟨by rw [mkS_length];exact q3,P3.out.2⟩)
 have Q1:=Lib.hid (Q1.out.tch t3 (fun b h1 h2=>HD1.out b h1 (by simp [h2])))
 have Q2:=Lib.hid (Q2.out.tch t3 (fun b h2 h3=>HD2.out b h2 h3))
 have HT:=Lib.hid (HT.out.trans (t3.sub (fun k hk=>by simp [hk])))
 clear hx hlt2 q3 t3
 go_wp2
 go_ret
 refine ⟨ret_int (by unfold cntR;omega),⟨_,_,_,f1,f2,f3,?_,Q1.out,Q2.out,Q3.out,rfl,HN.out⟩,HT.out⟩
 unfold mkR Request.row
 simp only [mkS_length]
section
variable {H:Type} {enc:TypeId×Value→H} {P:Program} {w:World} {held:Bool}
theorem trod_parts {e:TypeId} {fs:Array Field} {fuel:Nat} {cs:List Value} {x:DataW H×List MemPlace} (he:P.underlying e=some (.struct fs)) (h:DataW.trod enc P w 0 (fun _=>true) held fuel e cs=some x) :
  cs.length=P.cellsOf e∧∀ (j:Nat) (f:Field),fs[j]? = some f→∃ (n:Nat) (y:DataW H×List MemPlace),(∀ p∈y.2,p∈x.2)∧DataW.trod enc P w 0 (fun _=>true) held n f.type ((cs.drop f.offset).take (P.cellsOf f.type))=some y:=by
 obtain ⟨ys,n',hn',hy,hlen,hyl,hf⟩:=DataW.trod_struct he h
 refine ⟨hlen,fun j f hj=>?_⟩
 have hjl:j < fs.size:=(Array.getElem?_eq_some_iff.1 hj).1
 have hys:ys[j]? = some (ys[j]'(by omega)):=List.getElem?_eq_getElem (by omega)
 refine ⟨n',_,fun p hp=>?_,(hf j f hj).trans hys⟩
 rw [hy]
 exact List.mem_flatMap.2 ⟨_,List.getElem_mem _,hp⟩
end
theorem tells_Pallet {H:Type} {enc:TypeId×Value→H} {w:World} {B:Nat} : Tells enc Tryz.prog w true 23 B 4 (flat Pallet.cells):=fun n cs y h _=>by
 obtain ⟨ns,hl,rfl⟩:=trod_ints Tryz.underlying23 (by kernel_rfl) (by kernel_rfl) Tryz.underlying3 (fun j f hj=>by
  have hj':=(Array.getElem?_eq_some_iff.1 hj).1
  match j,hj' with
  |0,_=>simp at hj;rw [← hj]
  |1,_=>simp at hj;rw [← hj]
  |2,_=>simp at hj;rw [← hj]
  |3,_=>simp at hj;rw [← hj]
  |j + 4,h=>exact absurd h (by simp)) h
 match ns,hl with
 |[a0,a1,a2,a3],_=>exact ⟨⟨a0,a1,a2,a3⟩,rfl,rfl⟩
theorem read_Request {H:Type} {enc:TypeId×Value→H} {w:World} {b0:Nat} {v:Value} {d:DataW H} {ps:List MemPlace} (hv:Value.okWide Tryz.prog w .any b0 28 v) (h:DataW.Trod enc Tryz.prog w 0 (fun _=>true) true 28 v d ps) (hlt:∀ p∈ps,p.block < w.heap.size) :
  ∃ r,RReq 9223372036854775807 w w.heap.size v r:=by
 obtain ⟨cs,rfl,hsz⟩:=okWide_struct Tryz.underlying28 hv
 obtain ⟨n,hn⟩:=h
 obtain ⟨hl,hf⟩:=trod_parts Tryz.underlying28 hn
 rw [show Tryz.prog.cellsOf 28=10 by kernel_rfl] at hl
 obtain ⟨l⟩:=cs
 simp only [Value.cells] at hl hf
 match l,hl with
 |[x0,x1,x2,x3,x4,x5,x6,x7,x8,x9],_ =>
  have ci:Tryz.prog.cellsOf 3=1:=by kernel_rfl
  have cp:Tryz.prog.cellsOf 23=4:=by kernel_rfl
  have c6:Tryz.prog.cellsOf 24=1:=by kernel_rfl
  have c7:Tryz.prog.cellsOf 25=1:=by kernel_rfl
  have c9:Tryz.prog.cellsOf 26=1:=by kernel_rfl
  obtain ⟨n0,y0,s0,t0⟩:=hf 0 _ rfl
  obtain ⟨n1,y1,s1,t1⟩:=hf 1 _ rfl
  obtain ⟨n2,y2,s2,t2⟩:=hf 2 _ rfl
  obtain ⟨n3,y3,s3,t3⟩:=hf 3 _ rfl
  obtain ⟨n4,y4,s4,t4⟩:=hf 4 _ rfl
  obtain ⟨n5,y5,s5,t5⟩:=hf 5 _ rfl
  obtain ⟨n6,y6,s6,t6⟩:=hf 6 _ rfl
  simp [ci] at t0 t2 t5
  simp [cp] at t1
  simp [c6] at t3
  simp [c7] at t4
  simp [c9] at t6
  obtain ⟨a0,e0,_⟩:=DataW.trod_int Tryz.underlying3 t0
  obtain ⟨pl,hpl,e1⟩:=tells_Pallet (B:=w.heap.size) n1 _ y1 t1 (fun p hp=>hlt p (s1 p hp))
  obtain ⟨a2,e2,_⟩:=DataW.trod_int Tryz.underlying3 t2
  obtain ⟨v3,xs3,e3,hr3⟩:=tells_slice Tryz.underlying24 (by kernel_rfl) (by omega) tells_Pair t3 (fun p hp=>hlt p (s3 p hp))
  obtain ⟨v4,xs4,e4,hr4⟩:=tells_slice Tryz.underlying25 (by kernel_rfl) (by omega) tells_Type t4 (fun p hp=>hlt p (s4 p hp))
  obtain ⟨a5,e5,_⟩:=DataW.trod_int Tryz.underlying3 t5
  obtain ⟨v6,xs6,e6,hr6⟩:=tells_slice Tryz.underlying26 (by kernel_rfl) (by omega) tells_Item t6 (fun p hp=>hlt p (s6 p hp))
  simp [flat,Pallet.cells] at e0 e1 e2 e3 e4 e5 e6
  obtain ⟨g1,g2,g3,g4⟩:=e1
  subst e0 g1 g2 g3 g4 e2 e3 e4 e5 e6
  exact ⟨⟨a0,pl,a2,xs3,xs4,a5,xs6⟩,_,_,_,rfl,hr3,hr4,hr6⟩
end Go.Proofs.YtioijfplbgpjpaaGreat
namespace Go.Proofs.YtioijfplbgpjpaaGreat
set_option linter.unusedVariables false
set_option linter.unusedSimpArgs false
set_option maxRecDepth 100000
open Go.RowKit
section
variable {w W W':World} {l l1 l2:List Fact} {q q':Fact}
end
section
variable {w W W':World} {l l1 l2:List Fact} {g:Nat} {cs:Array Value} {t:TypeId} {v:Value} {r:Request} {fp:List Nat} {b:Nat}
theorem Sit.mark (h:Sit w W (l1 ++ fReq b v r fp::l2)) (ht:Tch fp W W') {r':Request} (ho:OReq W' b v r' fp):Sit w W' (l1 ++ fReq b v r' fp::l2) :=
 h.tch ht (fReq b v r' fp) rfl (fReq_ok _ _ _ _) ho
end
section
variable {w W W':World} {l:List Fact} {q q2:Fact} {g B:Nat} {t:TypeId} {v:Value} {r:Request} {fp:List Nat}
end
section
variable {w W W':World} {l l1 l2:List Fact} {g b j:Nat} {cs:Array Value} {t:TypeId} {u v v':Value} {r r':Request} {fp:List Nat}
end
end Go.Proofs.YtioijfplbgpjpaaGreat
namespace Go.Proofs.YtioijfplbgpjpaaGreat
set_option linter.unusedVariables false
set_option linter.unusedSimpArgs false
set_option maxRecDepth 100000
open Go.RowKit
section
variable {w W W':World} {l l1 l2:List Fact} {q q':Fact}
end
section
variable {α:Type} {f:α→List Value} {e K base:Nat} {w W W':World} {l:List Fact} {v v':Value} {xs xs':List α} {fp:List Nat}
end
section
variable {α:Type} {f:α→List Value} {e K base:Nat} {w W W':World} {l:List Fact} {v:Value} {xs:List α} {fp:List Nat} {g n c k j:Nat} {x y:α} {us:List Value}
end
section
variable {α:Type} {F:α→α} {xs:List α} {k:Nat} {x:α}
end
end Go.Proofs.YtioijfplbgpjpaaGreat
namespace Go.Proofs.YtioijfplbgpjpaaGreat
set_option linter.unusedVariables false
set_option linter.unusedSimpArgs false
set_option maxRecDepth 100000
open Go.RowKit
theorem wapp_String {o:Oper} {a:Act} {K:Act→World→Prop} {Q:Exit→Act→World→Prop} {w:World} (s x:Operand)
  (ho:o.op=.call { callee:=.builtin .append,args:=#[s,x],argTypes:=#[59,59] }) {base bd B:Nat} {v:Value} {xs ys:List ByteArray} {fp:List Nat} {A:Option Addr} {m c:Nat} (hs:a.eval s=v)
  (hx:a.eval x=.slice A m c) (hr:RL bd 1 (flat cS) w B (.slice A m c) ys) (hown:OF cS 9 1 w base v xs fp) (hl:xs.length + ys.length≤33554432) (hbase:base≤w.heap.size)
  (h:∀ v' w',AppOF cS 9 1 w base (xs ++ ys) fp v' w'→K (a.put o.dst v') w'):o.wp Tryz.prog a w K Q:=by
 obtain ⟨i0,hi,hz0,hz1,hz2⟩:=info_parts info_str
 have hm:=hr.len_cap.1
 exact wp_appAll w s x 59 ho base 9 i0 _ 1 16 Tryz.underlying59 hi hz0 hz1 hz2 rfl (by omega) v _ _ hs hown.1 bd B cS A m c ys hx hr hm (fun _=>rfl) one_String (by unfold maxLen;omega) (by omega) hbase
  (fun v' w' h1 h2 h3=>h v' w' (OF.app_of_row (by rw [List.flatMap_append];exact h1) (by rw [List.length_append,hm]) h2 h3 hown.2))
theorem pappAll_String {ops:Array Oper} {rest:List Oper} {o:Oper} {a:Act} {Q:Exit→Act→World→Prop} {w:World} (s x:Operand) (hgd:o.guard=none)
  (ho:o.op=.call { callee:=.builtin .append,args:=#[s,x],argTypes:=#[59,59] }) {base bd B:Nat} {v:Value} {xs ys:List ByteArray} {fp:List Nat} {A:Option Addr} {m c:Nat} (hs:a.eval s=v)
  (hx:a.eval x=.slice A m c) (hr:RL bd 1 (flat cS) w B (.slice A m c) ys) (hown:OF cS 9 1 w base v xs fp) (hl:xs.length + ys.length≤33554432) (hbase:base≤w.heap.size)
  (h:∀ v' w',AppOF cS 9 1 w base (xs ++ ys) fp v' w'→wpList Tryz.prog ops Q rest (a.put o.dst v') w'):wpList Tryz.prog ops Q (o::rest) a w :=
 wpList_plain hgd fun _ hK=>wapp_String s x ho hs hx hr hown hl hbase fun v' w' ha=>hK _ _ (h v' w' ha)
theorem papp_String {ops:Array Oper} {rest:List Oper} {o:Oper} {a:Act} {Q:Exit→Act→World→Prop} {w:World} (s x:Operand) (hgd:o.guard=none)
  (ho:o.op=.call { callee:=.builtin .append,args:=#[s,x],argTypes:=#[59,59] }) {base:Nat} {v:Value} {xs:List ByteArray} {fp:List Nat} (y:ByteArray) {news:Array Value} {N:Nat} (hs:a.eval s=v)
  (hx:a.eval x=.slice (some ⟨N,0,none⟩) 1 1) (hN:w.heap[N]? = some (.cells news 9 (0,0))) (hy:news=(cS y).toArray) (hown:OF cS 9 1 w base v xs fp) (hl:xs.length < 16777216) (hbase:base≤w.heap.size)
  (h:∀ v' w',AppOF cS 9 1 w base (xs ++ [y]) fp v' w'→wpList Tryz.prog ops Q rest (a.put o.dst v') w'):wpList Tryz.prog ops Q (o::rest) a w :=
 pappAll_String s x hgd ho hs hx (RL_one1 hN hy rfl (Nat.lt_succ_self N)) hown (by simp;omega) hbase h
end Go.Proofs.YtioijfplbgpjpaaGreat
namespace Go.Proofs.YtioijfplbgpjpaaGreat
set_option linter.unusedVariables false
set_option linter.unusedSimpArgs false
set_option maxRecDepth 100000
open Go.RowKit
end Go.Proofs.YtioijfplbgpjpaaGreat
namespace Go.Proofs.YtioijfplbgpjpaaGreat
set_option linter.unusedVariables false
set_option linter.unusedSimpArgs false
set_option maxRecDepth 100000
open Go.RowKit
section
variable {w W W':World} {l l':List Fact}
end
section
variable {α:Type} {f:α→List Value} {e K base:Nat} {w w':World} {v:Value} {xs:List α} {fp:List Nat} {g n c k:Nat} {x:α}
end
section
variable {α:Type} {inn:α→List Int} {w W W':World} {base B:Nat} {zs zs':List (α×Value)} {fp fp':List Nat} {l:List Fact} {k:Nat} {z:α×Value} {a:α} {v:Value} {ys:List Int}
end
end Go.Proofs.YtioijfplbgpjpaaGreat
namespace Go.Proofs.YtioijfplbgpjpaaGreat
set_option linter.unusedVariables false
set_option linter.unusedSimpArgs false
set_option maxRecDepth 100000
open Go.RowKit
section
variable {α:Type} {hd:α→Value→List Value} {inn:α→List Int}
end
end Go.Proofs.YtioijfplbgpjpaaGreat
namespace Go.Proofs.YtioijfplbgpjpaaGreat
set_option linter.unusedVariables false
set_option linter.unusedSimpArgs false
set_option maxRecDepth 100000
open Go.RowKit
section
variable {α:Type} {f:α→List Value} {e K:Nat} {w W W':World} {l:List Fact} {b:Nat} {v:Value} {xs:List α} {fp:List Nat}
end
section
variable {α:Type} {hd:α→Value→List Value} {inn:α→List Int} {e K B:Nat} {w W1 W2 W3 W:World} {l:List Fact} {u v v':Value} {zs:List (α×Value)} {f f1 f2 f3:List Nat} {x:α} {ys:List Int} {g n c k j:Nat} {us:List Value}
end
end Go.Proofs.YtioijfplbgpjpaaGreat
namespace Go.Proofs.YtioijfplbgpjpaaGreat
set_option linter.unusedVariables false
set_option linter.unusedSimpArgs false
set_option maxRecDepth 100000
open Go.RowKit
end Go.Proofs.YtioijfplbgpjpaaGreat
namespace Go.Proofs.YtioijfplbgpjpaaGreat
set_option linter.unusedVariables false
set_option linter.unusedSimpArgs false
set_option maxRecDepth 100000
open Go.RowKit
end Go.Proofs.YtioijfplbgpjpaaGreat
namespace Go.Proofs.YtioijfplbgpjpaaGreat
set_option linter.unusedVariables false
set_option linter.unusedSimpArgs false
set_option maxRecDepth 100000
open Go.RowKit
set_option maxRecDepth 100000
end Go.Proofs.YtioijfplbgpjpaaGreat
namespace Go.Proofs.YtioijfplbgpjpaaGreat
set_option linter.unusedVariables false
set_option linter.unusedSimpArgs false
set_option maxRecDepth 100000
open Go.RowKit
end Go.Proofs.YtioijfplbgpjpaaGreat
namespace Go.Proofs.YtioijfplbgpjpaaGreat
set_option linter.unusedVariables false
set_option linter.unusedSimpArgs false
set_option maxRecDepth 100000
open Go.RowKit
end Go.Proofs.YtioijfplbgpjpaaGreat
namespace Go.Proofs.YtioijfplbgpjpaaGreat
set_option linter.unusedVariables false
set_option linter.unusedSimpArgs false
set_option maxRecDepth 100000
open Go.RowKit
section
variable {α:Type} {f:α→List Value} {inn:α→List Int} {W:World} {e K base n c g i k:Nat} {F:Option Addr} {xs:List α} {zs:List (α×Value)} {fp:List Nat} {x a:α} {u:Value} {y:Int}
end
end Go.Proofs.YtioijfplbgpjpaaGreat
namespace Go.Proofs.YtioijfplbgpjpaaGreat
set_option linter.unusedVariables false
set_option linter.unusedSimpArgs false
set_option maxRecDepth 100000
section
variable {P:Program} {ops:Array Oper} {Q:Exit→Act→World→Prop} {S:World→Prop}
end
section
variable {P:Program} {ops:Array Oper} {Q:Exit→Act→World→Prop} {S:World→Prop} {listed l':Array Bool} {a b:Act} {w:World} {oi:Oper} {v:Value} {i:Nat} {rs:List Nat}
end
section
end
end Go.Proofs.YtioijfplbgpjpaaGreat
namespace Go.Proofs.YtioijfplbgpjpaaGreat
set_option linter.unusedVariables false
set_option linter.unusedSimpArgs false
set_option maxRecDepth 100000
open Go.RowKit
end Go.Proofs.YtioijfplbgpjpaaGreat
namespace Go.Proofs.YtioijfplbgpjpaaGreat
set_option linter.unusedVariables false
set_option linter.unusedSimpArgs false
set_option maxRecDepth 100000
open Go.RowKit
end Go.Proofs.YtioijfplbgpjpaaGreat
namespace Go.Proofs.YtioijfplbgpjpaaGreat
set_option linter.unusedVariables false
set_option linter.unusedSimpArgs false
set_option maxRecDepth 100000
open Go.RowKit
end Go.Proofs.YtioijfplbgpjpaaGreat
namespace Go.Proofs.YtioijfplbgpjpaaGreat
set_option linter.unusedVariables false
set_option linter.unusedSimpArgs false
set_option maxRecDepth 100000
open Go.RowKit
end Go.Proofs.YtioijfplbgpjpaaGreat
namespace Go.Proofs.YtioijfplbgpjpaaGreat
set_option linter.unusedVariables false
set_option linter.unusedSimpArgs false
set_option maxRecDepth 100000
open Go.RowKit
end Go.Proofs.YtioijfplbgpjpaaGreat
namespace Go.Proofs.YtioijfplbgpjpaaGreat
set_option linter.unusedVariables false
set_option linter.unusedSimpArgs false
set_option maxRecDepth 100000
open Go.RowKit
theorem place_of {b:Box} {s:Spot} (hw:0 < b.w∧b.w≤2000) (hd:0 < b.d∧b.d≤2000) (hh:0 < b.h∧b.h≤2000) (hx:0≤s.x∧s.x≤2000) (hy:0≤s.y∧s.y≤2000) (hz:0≤s.z∧s.z≤2000):placeB b s=true:=by
 simp only [placeB,inB,Bool.and_eq_true,decide_eq_true_eq]
 omega
end Go.Proofs.YtioijfplbgpjpaaGreat
namespace Go.Proofs.YtioijfplbgpjpaaGreat
set_option linter.unusedVariables false
set_option linter.unusedSimpArgs false
set_option maxRecDepth 100000
open Go.RowKit
def covB (r:Request) (x:Plan) (k z px py:Int) (i:Nat):Bool:=overB (boxAt r x i) (spotAt x i) point ⟨k,px,py,z⟩
def sign (i:Int):Int:=97 + i.tmod 26
def pixS (r:Request) (x:Plan) (k z px py:Int):Int:=if firstI (covB r x k z px py) (List.range x.cartons.length) < 0 then 46 else sign (firstI (covB r x k z px py) (List.range x.cartons.length))
def inXY (r:Request) (x:Plan) (px py i:Int):Bool:=(decide ((spotAt x i).y≤py) && decide (py < (spotAt x i).y + (boxAt r x i).d)) && (decide ((spotAt x i).x≤px) && decide (px < (spotAt x i).x + (boxAt r x i).w))
def pixStep (r:Request) (x:Plan) (px py c i:Int):Int:=if inXY r x px py i=true then sign i else c
def pixI (r:Request) (x:Plan) (k z px py:Int):Int:=(atHeight r x k z).foldl (pixStep r x px py) 46
section
variable {r:Request} {x:Plan} {k z px py:Int}
theorem cov_iff (h:feasible r x=true) (hx:0≤px∧px≤2000) (hy:0≤py∧py≤2000) (hz:0≤z∧z≤2000) {j:Nat} (hj:j < x.cartons.length):covB r x k z px py j=true↔(j:Int)∈atHeight r x k z∧inXY r x px py j=true:=by
 obtain ⟨a1,a2,a3,a4,a5,a6,_⟩:=within_facts (feas_inside h hj)
 rw [atHeight_mem h]
 unfold covB overB
 rw [place_of a1 a2 a3 a4 a5 a6,place_of (b:=point) (s:=⟨k,px,py,z⟩) (by decide) (by decide) (by decide) hx hy hz]
 unfold inXY
 simp only [crossB,show point.w=1 from rfl,show point.d=1 from rfl,show point.h=1 from rfl,Bool.and_eq_true,decide_eq_true_eq,beq_iff_eq,true_and]
 constructor
 ·rintro ⟨h1,⟨h2,h3⟩,⟨h4,h5⟩,h6,h7⟩
  exact ⟨⟨j,rfl,hj,h1,by omega,by omega⟩,⟨by omega,by omega⟩,by omega,by omega⟩
 ·rintro ⟨⟨i,hi,_,h1,h2,h3⟩,⟨h4,h5⟩,h6,h7⟩
  obtain rfl:j=i:=by omega
  exact ⟨h1,⟨by omega,by omega⟩,⟨by omega,by omega⟩,by omega,by omega⟩
theorem cov_one (h:feasible r x=true) (hx:0≤px∧px≤2000) (hy:0≤py∧py≤2000) (hz:0≤z∧z≤2000) {i j:Nat} (hi:i < x.cartons.length) (hj:j < x.cartons.length) (hci:covB r x k z px py i=true) (hcj:covB r x k z px py j=true):i=j:=by
 have hw:∀ {i j:Nat},i < x.cartons.length→j < i→covB r x k z px py i=true→covB r x k z px py j=true→False:=by
  intro i j hi hji hci hcj
  have hj:j < x.cartons.length:=by omega
  have ho:=feas_apart h hi hji
  obtain ⟨a1,a2,a3,a4,a5,a6,_⟩:=within_facts (feas_inside h hi)
  obtain ⟨b1,b2,b3,b4,b5,b6,_⟩:=within_facts (feas_inside h hj)
  obtain ⟨p1,p2⟩:=(cov_iff h hx hy hz hi).1 hci
  obtain ⟨q1,q2⟩:=(cov_iff h hx hy hz hj).1 hcj
  obtain ⟨i',e1,_,p3,p4,p5⟩:=(atHeight_mem h).1 p1
  obtain ⟨j',e2,_,q3,q4,q5⟩:=(atHeight_mem h).1 q1
  obtain rfl:i=i':=by omega
  obtain rfl:j=j':=by omega
  unfold inXY at p2 q2
  simp only [Bool.and_eq_true,decide_eq_true_eq] at p2 q2
  unfold overB at ho
  rw [place_of a1 a2 a3 a4 a5 a6,place_of b1 b2 b3 b4 b5 b6] at ho
  have:(overB (boxAt r x i) (spotAt x i) (boxAt r x j) (spotAt x j))=true:=by
   unfold overB
   rw [place_of a1 a2 a3 a4 a5 a6,place_of b1 b2 b3 b4 b5 b6]
   simp only [crossB,Bool.and_eq_true,decide_eq_true_eq,beq_iff_eq,true_and]
   omega
  unfold overB at this
  rw [place_of a1 a2 a3 a4 a5 a6,place_of b1 b2 b3 b4 b5 b6,ho] at this
  cases this
 rcases Nat.lt_trichotomy i j with hl | he | hl
 ·exact (hw hj hl hcj hci).elim
 ·exact he
 ·exact (hw hi hl hci hcj).elim
theorem fold_none (px py:Int):∀ (l:List Int) (c:Int),(∀ u∈l,inXY r x px py u=false)→l.foldl (pixStep r x px py) c=c
 |[],_,_=>rfl
 |u::l,c,h=>by
  rw [List.foldl_cons]
  have e:pixStep r x px py c u=c:=by unfold pixStep;rw [h u (by simp)];rfl
  rw [e]
  exact fold_none px py l c (fun y hy=>h y (by simp [hy]))
theorem fold_one (px py:Int) (i:Int):∀ (l:List Int) (c:Int),i∈l ∨ c=sign i→inXY r x px py i=true→(∀ u∈l,inXY r x px py u=true→u=i)→l.foldl (pixStep r x px py) c=sign i
 |[],c,h,_,_=>h.elim (fun h=>by simp at h) id
 |u::l,c,h,hi,hu=>by
  rw [List.foldl_cons]
  refine fold_one px py i l _ ?_ hi (fun y hy=>hu y (by simp [hy]))
  by_cases hc:inXY r x px py u=true
  ·have:=hu u (by simp) hc
   subst this
   exact .inr (by unfold pixStep;rw [if_pos hc])
  ·have e:pixStep r x px py c u=c:=by unfold pixStep;rw [if_neg hc]
   rw [e]
   rcases h with h | h
   ·rcases List.mem_cons.1 h with rfl | h
    ·exact absurd hi hc
    ·exact .inl h
   ·exact .inr h
theorem pix_eq (h:feasible r x=true) (hx:0≤px∧px≤2000) (hy:0≤py∧py≤2000) (hz:0≤z∧z≤2000):pixI r x k z px py=pixS r x k z px py:=by
 have hmem:∀ u∈atHeight r x k z,∃ j:Nat,u=j∧j < x.cartons.length:=fun u hu=>by
  obtain ⟨j,e,hj,_⟩:=(atHeight_mem h).1 hu
  exact ⟨j,e,hj⟩
 unfold pixI pixS firstI firstFrom
 rw [List.drop_zero]
 cases hf:(List.range x.cartons.length).findIdx? (covB r x k z px py) with
 |none =>
  simp only
  rw [if_pos (by omega)]
  refine fold_none px py _ _ fun u hu=>?_
  obtain ⟨j,rfl,hj⟩:=hmem u hu
  have:=List.findIdx?_eq_none_iff.1 hf j (List.mem_range.2 hj)
  refine Bool.eq_false_iff.2 fun hc=>?_
  rw [(cov_iff h hx hy hz hj).2 ⟨hu,hc⟩] at this
  cases this
 |some n =>
  obtain ⟨h1,h2,_⟩:=List.findIdx?_eq_some_iff_getElem.1 hf
  rw [List.length_range] at h1
  rw [List.getElem_range] at h2
  simp only [Nat.zero_add]
  rw [if_neg (by omega)]
  obtain ⟨p1,p2⟩:=(cov_iff h hx hy hz h1).1 h2
  refine fold_one px py _ _ _ (.inl p1) p2 fun u hu hc=>?_
  obtain ⟨j,rfl,hj⟩:=hmem u hu
  rw [cov_one h hx hy hz hj h1 ((cov_iff h hx hy hz hj).2 ⟨hu,hc⟩) h2]
end
end Go.Proofs.YtioijfplbgpjpaaGreat
namespace Go.Proofs.YtioijfplbgpjpaaGreat
set_option linter.unusedVariables false
set_option linter.unusedSimpArgs false
set_option maxRecDepth 100000
open Go.RowKit
section
variable {r:Request} {x:Plan} {k z:Int}
end
end Go.Proofs.YtioijfplbgpjpaaGreat
namespace Go.Proofs.YtioijfplbgpjpaaGreat
set_option linter.unusedVariables false
set_option linter.unusedSimpArgs false
set_option maxRecDepth 100000
open Go.RowKit
section
variable {r:Request} {x:Plan} {k:Int}
end
end Go.Proofs.YtioijfplbgpjpaaGreat
namespace Go.Proofs.YtioijfplbgpjpaaGreat
set_option linter.unusedVariables false
set_option linter.unusedSimpArgs false
set_option maxRecDepth 100000
open Go.RowKit Go.WideShapes Go.ChangeShapes Go.ChangeAt Go.Deep
end Go.Proofs.YtioijfplbgpjpaaGreat
namespace Go.Proofs.YtioijfplbgpjpaaGreat
set_option linter.unusedVariables false
set_option linter.unusedSimpArgs false
set_option maxRecDepth 100000
open Go.RowKit Go.WideShapes Go.ChangeShapes Go.ChangeAt Go.Deep
set_option maxRecDepth 100000
theorem tells_Carton {H:Type} {enc:TypeId×Value→H} {w:World} {B:Nat} : Tells enc Tryz.prog w true 163 B 3 (RCarton 9223372036854775807):=fun n cs y h hB=>by
 obtain ⟨hl,hf⟩:=trod_fields Tryz.underlying163 (by kernel_rfl) (by kernel_rfl) h
 obtain ⟨_,c0,_,g0,_,t0⟩:=hf 0 _ rfl
 obtain ⟨_,c1,_,g1,_,t1⟩:=hf 1 _ rfl
 obtain ⟨n2,c2,y2,g2,s2,t2⟩:=hf 2 _ rfl
 obtain ⟨a0,e0,_⟩:=DataW.trod_int Tryz.underlying3 t0
 obtain ⟨a1,e1,_⟩:=DataW.trod_int Tryz.underlying3 t1
 obtain ⟨v,xs,e2,hr⟩:=tells_slice Tryz.underlying53 (by kernel_rfl) (by omega) (tells_int Tryz.underlying3) t2 (fun p hp=>hB p (s2 p hp))
 injection e0 with e0
 injection e1 with e1
 injection e2 with e2
 subst e0 e1 e2
 match cs,hl with
 |[d0,d1,d2],_ =>
  simp only [List.getElem?_cons_zero,List.getElem?_cons_succ,Option.some.injEq] at g0 g1 g2
  subst g0 g1 g2
  exact ⟨⟨a0,a1,xs⟩,rfl,_,rfl,hr⟩
theorem read_Plan {H:Type} {enc:TypeId×Value→H} {w:World} {b0:Nat} {v:Value} {d:DataW H} {ps:List MemPlace} (hv:Value.okWide Tryz.prog w .any b0 32 v) (h:DataW.Trod enc Tryz.prog w 0 (fun _=>true) true 32 v d ps) (hlt:∀ p∈ps,p.block < w.heap.size) :
  ∃ p,RPlan 9223372036854775807 w w.heap.size v p:=by
 obtain ⟨cs,rfl,hsz⟩:=okWide_struct Tryz.underlying32 hv
 obtain ⟨n,hn⟩:=h
 obtain ⟨hl,hf⟩:=trod_fields Tryz.underlying32 (by kernel_rfl) (by kernel_rfl) hn
 obtain ⟨n0,c0,y0,g0,s0,t0⟩:=hf 0 _ rfl
 obtain ⟨n1,c1,y1,g1,s1,t1⟩:=hf 1 _ rfl
 obtain ⟨v0,xs,e0,hr0⟩:=tells_slice Tryz.underlying29 (by kernel_rfl) (by omega) tells_Carton t0 (fun p hp=>hlt p (s0 p hp))
 obtain ⟨v1,ys,e1,hr1⟩:=tells_slice Tryz.underlying30 (by kernel_rfl) (by omega) tells_Spot t1 (fun p hp=>hlt p (s1 p hp))
 injection e0 with e0
 injection e1 with e1
 subst e0 e1
 obtain ⟨l⟩:=cs
 match l,hl with
 |[d0,d1],_ =>
  simp only [Value.cells,List.getElem?_cons_zero,List.getElem?_cons_succ,Option.some.injEq] at g0 g1
  subst g0 g1
  exact ⟨⟨xs,ys⟩,_,_,rfl,hr0,hr1⟩
end Go.Proofs.YtioijfplbgpjpaaGreat
namespace Go.Proofs.YtioijfplbgpjpaaGreat
set_option linter.unusedVariables false
set_option linter.unusedSimpArgs false
set_option maxRecDepth 100000
open Go.RowKit
def cU (n:Int):List Value:=[.int .u8 n]
theorem info_u8:(Tryz.prog.info? 5).map (fun i=>(i.zero,i.size,i.bytes))=some (some (.int .u8 0),1,1):=by kernel_rfl
theorem one_Byte:∀ (y:Int),∀ u∈cU y,u.oneCell'=true:=fun y u hu=>by simp [cU] at hu;subst hu;rfl
def byt (xs:List Int):ByteArray:=⟨(xs.map fun x=>UInt8.ofNat x.toNat).toArray⟩
theorem of_back {P:Program} {W:World} {base g c:Nat} {xs:List Int} {fp:List Nat} (h:OF cU 5 1 W base (.slice (some ⟨g,0,none⟩) xs.length c) xs fp) (hb:∀ x∈xs,0≤x∧x < 256) (src dst:TypeId) (hs:P.underlying src=some (.slice 5)) (he:P.underlying 5=some (.int .u8)) (hd:P.underlying dst=some .string):(convert src dst (.slice (some ⟨g,0,none⟩) xs.length c)).run P W=.ok (.string (byt xs)) W:=by
 have hl:(xs.map fun x=>UInt8.ofNat x.toNat).length=xs.length:=by simp
 have:=run_convert_bytes_back (P:=P) W src dst 5 ⟨g,0,none⟩ c (xs.map fun x=>UInt8.ofNat x.toNat) hs he hd (fun j hj=>by
  rw [hl] at hj
  have hx:xs[j]? = some xs[j]:=List.getElem?_eq_getElem hj
  have h2:=h.cells (fun _=>rfl) hx 0 _ rfl
  rw [Nat.mul_one,Nat.add_zero] at h2
  have h3:(⟨g,0,none⟩:Addr).add j=⟨g,j,none⟩:=by
   unfold Addr.add
   split <;> simp_all
  rw [h3,h2,List.getElem_map]
  obtain ⟨h4,h5⟩:=hb _ (List.getElem_mem hj)
  have h6:((UInt8.ofNat (xs[j]).toNat).toNat:Int)=xs[j]:=by
   rw [UInt8.toNat_ofNat']
   omega
  rw [h6])
 rw [hl] at this
 exact this
theorem wapp_Byte {o:Oper} {a:Act} {K:Act→World→Prop} {Q:Exit→Act→World→Prop} {w:World} (s x:Operand)
  (ho:o.op=.call { callee:=.builtin .append,args:=#[s,x],argTypes:=#[63,63] }) {base bd B:Nat} {v:Value} {xs ys:List Int} {fp:List Nat} {A:Option Addr} {m c:Nat} (hs:a.eval s=v)
  (hx:a.eval x=.slice A m c) (hr:RL bd 1 (flat cU) w B (.slice A m c) ys) (hown:OF cU 5 1 w base v xs fp) (hl:xs.length + ys.length≤33554432) (hbase:base≤w.heap.size)
  (h:∀ v' w',AppOF cU 5 1 w base (xs ++ ys) fp v' w'→K (a.put o.dst v') w'):o.wp Tryz.prog a w K Q:=by
 obtain ⟨i0,hi,hz0,hz1,hz2⟩:=info_parts info_u8
 have hm:=hr.len_cap.1
 exact wp_appAll w s x 63 ho base 5 i0 _ 1 1 Tryz.underlying63 hi hz0 hz1 hz2 rfl (by omega) v _ _ hs hown.1 bd B cU A m c ys hx hr hm (fun _=>rfl) one_Byte (by unfold maxLen;omega) (by omega) hbase
  (fun v' w' h1 h2 h3=>h v' w' (OF.app_of_row (by rw [List.flatMap_append];exact h1) (by rw [List.length_append,hm]) h2 h3 hown.2))
theorem pappAll_Byte {ops:Array Oper} {rest:List Oper} {o:Oper} {a:Act} {Q:Exit→Act→World→Prop} {w:World} (s x:Operand) (hgd:o.guard=none)
  (ho:o.op=.call { callee:=.builtin .append,args:=#[s,x],argTypes:=#[63,63] }) {base bd B:Nat} {v:Value} {xs ys:List Int} {fp:List Nat} {A:Option Addr} {m c:Nat} (hs:a.eval s=v)
  (hx:a.eval x=.slice A m c) (hr:RL bd 1 (flat cU) w B (.slice A m c) ys) (hown:OF cU 5 1 w base v xs fp) (hl:xs.length + ys.length≤33554432) (hbase:base≤w.heap.size)
  (h:∀ v' w',AppOF cU 5 1 w base (xs ++ ys) fp v' w'→wpList Tryz.prog ops Q rest (a.put o.dst v') w'):wpList Tryz.prog ops Q (o::rest) a w :=
 wpList_plain hgd fun _ hK=>wapp_Byte s x ho hs hx hr hown hl hbase fun v' w' ha=>hK _ _ (h v' w' ha)
theorem papp_Byte {ops:Array Oper} {rest:List Oper} {o:Oper} {a:Act} {Q:Exit→Act→World→Prop} {w:World} (s x:Operand) (hgd:o.guard=none)
  (ho:o.op=.call { callee:=.builtin .append,args:=#[s,x],argTypes:=#[63,63] }) {base:Nat} {v:Value} {xs:List Int} {fp:List Nat} (y:Int) {news:Array Value} {N:Nat} (hs:a.eval s=v)
  (hx:a.eval x=.slice (some ⟨N,0,none⟩) 1 1) (hN:w.heap[N]? = some (.cells news 5 (0,0))) (hy:news=(cU y).toArray) (hown:OF cU 5 1 w base v xs fp) (hl:xs.length < 16777216) (hbase:base≤w.heap.size)
  (h:∀ v' w',AppOF cU 5 1 w base (xs ++ [y]) fp v' w'→wpList Tryz.prog ops Q rest (a.put o.dst v') w'):wpList Tryz.prog ops Q (o::rest) a w :=
 pappAll_Byte s x hgd ho hs hx (RL_one1 hN hy rfl (Nat.lt_succ_self N)) hown (by simp;omega) hbase h
end Go.Proofs.YtioijfplbgpjpaaGreat
namespace Go.Proofs.YtioijfplbgpjpaaGreat
set_option linter.unusedVariables false
set_option linter.unusedSimpArgs false
set_option maxRecDepth 100000
open Go.RowKit Go.WideShapes Go.ChangeShapes Go.ChangeAt Go.Deep
@[simp] abbrev cB5 (X:World) (b o m:Nat) (s:Box):Prop:=X.cell? ⟨b,o + m * 4,none⟩=some (.int .i64 s.w)∧X.cell? ⟨b,o + m * 4 + 1,none⟩=some (.int .i64 s.d)∧X.cell? ⟨b,o + m * 4 + 2,none⟩=some (.int .i64 s.h)∧X.cell? ⟨b,o + m * 4 + 3,none⟩=some (.int .i64 s.gram)
abbrev RBoxes (w:World) (B:Nat) (v:Value) (xs:List Box):Prop:=RL 16777216 4 (flat Box.cells) w B v xs
theorem RBoxes.one {w:World} {A:Option Addr} {n c:Nat} {xs:List Box} (h:RBoxes w w.heap.size (.slice A n c) xs) (i:Nat) (hi:i < xs.length) :
  ∃ b off s,A=some ⟨b,off,none⟩∧b < w.heap.size∧xs[i]? = some s∧Hid (∀ X:World,Below w.heap.size w X→cB5 X b off i s):=by
 obtain ⟨b,off,s,cs,rfl,hb,hx,_,rfl,hc⟩:=h.at_ i hi
 exact ⟨b,off,s,rfl,hb,hx,Lib.hid fun X hX=>⟨(hX.cell (p:=⟨b,_,none⟩) hb).trans (hc 0 _ rfl),(hX.cell (p:=⟨b,_,none⟩) hb).trans (hc 1 _ rfl),(hX.cell (p:=⟨b,_,none⟩) hb).trans (hc 2 _ rfl),(hX.cell (p:=⟨b,_,none⟩) hb).trans (hc 3 _ rfl)⟩⟩
def drawable (r:Request) (x:Plan) (k z:Int):Bool:=feasible r x && (decide (r.pallet.w≤40) && (decide (r.pallet.d≤40) && (inB k 0 (wrap64 (palletsR x.spots - 1)) && inB z 0 (wrap64 (r.pallet.h - 1)))))
def rowP (r:Request) (x:Plan) (k z:Int) (y:Nat):List Int:=(List.range r.pallet.w.toNat).map fun q:Nat=>pixS r x k z q y
def pictureR (r:Request) (x:Plan) (k z:Int):List ByteArray:=if drawable r x k z=true then (List.range r.pallet.d.toNat).map fun y=>byt (rowP r x k z y) else []
theorem picture_len (r:Request) (x:Plan) (k z:Int):(pictureR r x k z).length≤40:=by
 unfold pictureR
 split
 ·rename_i h
  unfold drawable at h
  simp only [Bool.and_eq_true,decide_eq_true_eq] at h
  rw [List.length_map,List.length_range]
  omega
 ·simp
theorem range_map_step {α:Type} (f:Nat→α) (n:Nat):(List.range (n + 1)).map f=(List.range n).map f ++ [f n]:=by rw [List.range_succ,List.map_append];rfl
theorem sign_mod {i:Int} (h:0≤i):sign i=97 + i % 26:=by unfold sign;rw [Int.tmod_eq_emod_of_nonneg h]
theorem pixS_in (r:Request) (x:Plan) (k z px py:Int) (hc:x.cartons.length≤16777216):0≤pixS r x k z px py∧pixS r x k z px py < 256:=by
 unfold pixS
 split
 ·omega
 ·rename_i hn
  have h:=(firstFrom_lt (covB r x k z px py) (List.range x.cartons.length) 0).1
  rw [List.length_range] at h
  rw [sign_mod (by omega)]
  omega
set_option maxRecDepth 100000 in
set_option maxHeartbeats 2000000 in
theorem l21Boxes_any (v vx:Value) (r:Request) (x:Plan) (w:World) (h:RReq 16777216 w w.heap.size v r) (hx:RPlan 16777216 w w.heap.size vx x):Calls Tryz.prog 117 #[v,vx] w (MOF Box.cells 75 4 w (x.cartons.map (boxR r))):=by
 have HR:=Lib.hid h
 have HX:=Lib.hid hx
 obtain ⟨A1,c1,A2,c2,A3,c3,rfl,_⟩:=h.opn
 obtain ⟨PA,ca,PB,cb,rfl,HPA,HPB,hla,hlb⟩:=hx.opn
 have hS:=(((Sit.here w).alloc (cR r A1 c1 A2 c2 A3 c3) 41).alloc #[.slice PA x.cartons.length ca,.slice PB x.spots.length cb] 46).alloc #[] 75
 simp only [World.size_alloc] at hS
 have SN:=Lib.hid (hS.boxNil Box.cells 4)
 clear h hx hS
 go_enter Tryz.func117,Tryz.ntmps117
 have k1:=SN.out.box (.tail _ (.head _))
 have l1:=SN.out.boxlt (.tail _ (.head _))
 go_wp2
 clear k1 l1
 go_loopw [5,6] (fun vv i wr=>∃ (k:Nat) (fb:List Nat),k≤x.cartons.length∧i=.int .i64 k∧Hid (Sit w wr [fOF Box.cells 75 4 w.heap.size vv ((x.cartons.take k).map (boxR r)) fb,fBox (w.heap.size + 1) #[.slice PA x.cartons.length ca,.slice PB x.spots.length cb] 46,fBox w.heap.size (cR r A1 c1 A2 c2 A3 c3) 41])) (fun _ i _=>x.cartons.length - (intOf i).toNat)
 case atStart=>exact ⟨0,_,Nat.zero_le _,rfl,SN⟩
 case round =>
  clear SN
  obtain ⟨k,fb,hk,rfl,SN⟩:=hrel
  have k1:=SN.out.box (.tail _ (.head _))
  have l1:=SN.out.boxlt (.tail _ (.head _))
  by_cases hlt:k < x.cartons.length
  ·obtain ⟨b,off,c,U,cu,rfl,hb,hc,HU,HC⟩:=HPA.out.one k hlt
   obtain ⟨bx,hbx⟩:∃ bx,boxR r c=bx:=⟨_,rfl⟩
   have HBX:=Lib.hid hbx
   have HTK:=Lib.hid (show (x.cartons.take (k + 1)).map (boxR r)=(x.cartons.take k).map (boxR r) ++ [bx] by rw [List.take_add_one,hc,List.map_append,← hbx];rfl)
   have hln:((x.cartons.take k).map (boxR r)).length≤k:=by rw [List.length_map,List.length_take];omega
   obtain ⟨BK,hBK⟩:∃ BK,(x.cartons.take k).map (boxR r)=BK:=⟨_,rfl⟩
   rw [hBK] at SN HTK hln
   obtain ⟨Ao,co,rfl,_⟩:=(SN.out.list (.head _)).form
   have HCC:=Lib.hid (show ∀ X:World,Below wr.heap.size wr X→(cS10 (X) (w.heap.size) (r) (.slice A1 r.pairs.length c1) (.slice A2 r.types.length c2) (.slice A3 r.items.length c3))∧X.cell? ⟨w.heap.size + 1,0,none⟩=some (.slice (some ⟨b,off,none⟩) x.cartons.length ca)∧(cC3 (X) (b) (off) (k) (c) (.slice U c.units.length cu)) from fun X hX=>by
    have hX:=SN.out.next hX
    have c0:=hX.box (.tail _ (.tail _ (.head _)))
    exact ⟨⟨c0 0,c0 1,c0 2,c0 3,c0 4,c0 5,c0 6,c0 7,c0 8,c0 9⟩,hX.box (.tail _ (.head _)) 0,HC.out X hX.low⟩)
   clear hc hbx hBK
   go_upto_region 5 with fail
   clear k1 l1
   refine regu (S:=(fun W'=>((cS10 (W') (w.heap.size) (r) (.slice A1 r.pairs.length c1) (.slice A2 r.types.length c2) (.slice A3 r.items.length c3)))∧W'.cell? ⟨w.heap.size + 1,0,none⟩=some (.slice (some ⟨b,off,none⟩) x.cartons.length ca)∧(cC3 (W') (b) (off) (k) (c) (.slice U c.units.length cu)))) (by kernel_rfl) (fun _ _ _ _ _=>id) ?_ fun hHeld=>?_
   ·(first | exact hS7 | (refine HCC.out _ ?_;(repeat' with_reducible first | assumption | exact bR | apply bD | apply bA | apply bC | apply bW | omega | simp <;> omega);done) | go_keep)
   refine tku (b:=?_) [0,1,2,3,4,5,6] (by kernel_rfl) hHeld ?_ ?_
   rotate_left
   ·repeat first
    |exact .nil
    |refine .yes (v:=?_) rfl (by rfl) ?_ ?_
     rotate_left
     ·intro w9 hSw;(try dsimp only at hSw);go_simp;(try with_reducible rfl)
     (try simp only [aP,aZ,aS,aG,aH,aI])
   refine onu 7 rfl (by kernel_rfl) fun K hK=>?_
   go_simp
   ((go_at_call 91;refine (sBoxOf_any _ _ r c _ (HR.out.next (SN.out.next (by (repeat' with_reducible first | assumption | exact bR | apply bD | apply bA | apply bC | apply bW | omega | simp <;> omega))).low) (HU.out.next (flat_mono _) (SN.out.next (by (repeat' with_reducible first | assumption | exact bR | apply bD | apply bA | apply bC | apply bW | omega | simp <;> omega))).low)).mono ?_;rintro e w3 ⟨rfl,hb3⟩;rw [HBX.out];have hn3:=bstep (a:=wr) (by (repeat' with_reducible first | assumption | exact bR | apply bD | apply bA | apply bC | apply bW | omega | simp <;> omega)) hb3;have hz3:=hn3.size))
   refine hK.out _ _ ?_ (fun hHeld=>?_)
   ·(first | exact hS7 | (refine HCC.out _ ?_;(repeat' with_reducible first | assumption | exact bR | apply bD | apply bA | apply bC | apply bW | omega | simp <;> omega);done) | go_keep)
   clear hK K
   (try simp only [aP,aZ,aS,aG,aH,aI])
   refine onu 8 rfl (by kernel_rfl) fun K hK=>?_
   go_simp
   refine hK.out _ _ ?_ (fun hHeld=>?_)
   ·(first | exact hS7 | (refine HCC.out _ ?_;(repeat' with_reducible first | assumption | exact bR | apply bD | apply bA | apply bC | apply bW | omega | simp <;> omega);done) | go_keep)
   clear hK K
   (try simp only [aP,aZ,aS,aG,aH,aI])
   refine onu 9 rfl (by kernel_rfl) fun K hK=>?_
   (refine sapp_Box (.tmp 15) (.tmp 23) rfl rfl bx rfl rfl (heap_alloc_new _ _) rfl ((SN.out.list (.head _)).next (by (repeat' with_reducible first | assumption | exact bR | apply bD | apply bA | apply bC | apply bW | omega | simp <;> omega))) (by first | omega | (simp;done) | (simp;omega)) (by have:=SN.out.low.size;first | omega | (simp;done) | (simp;omega)) ?_;intro v7 w7 ha;obtain ⟨g7,S7⟩:=(SN.out.next (by (repeat' with_reducible first | assumption | exact bR | apply bD | apply bA | apply bC | apply bW | omega | simp <;> omega))).app ha;have S8:=Lib.hid S7;have q0:=S7.box (.tail _ (.tail _ (.head _)));have hS7:=And.intro (show cS10 (w7) (w.heap.size) (r) (.slice A1 r.pairs.length c1) (.slice A2 r.types.length c2) (.slice A3 r.items.length c3) from ⟨q0 0,q0 1,q0 2,q0 3,q0 4,q0 5,q0 6,q0 7,q0 8,q0 9⟩) (And.intro (S7.box (.tail _ (.head _)) 0) (HC.out w7 S7.low));clear S7 ha q0)
   refine hK.out _ _ ?_ (fun hHeld=>?_)
   ·(first | exact hS7 | (refine HCC.out _ ?_;(repeat' with_reducible first | assumption | exact bR | apply bD | apply bA | apply bC | apply bW | omega | simp <;> omega);done) | go_keep)
   clear hK K
   (try simp only [aP,aZ,aS,aG,aH,aI])
   refine lsu 10 rfl (by kernel_rfl) fun K hK=>?_
   go_simp
   refine hK.out _ _ ?_
   clear hK K
   (try simp only [aP,aZ,aS,aG,aH,aI])
   go_wp2_with fail
   go_roundw
   case rel=>exact ⟨k + 1,_,hlt,by go_num,by rw [HTK.out];exact S8⟩
   case measure=>simp [intOf] <;> omega
  ·obtain rfl:k=x.cartons.length:=by omega
   rw [List.take_length] at SN
   go_wp2
   go_ret
   exact SN.out.mof
set_option maxRecDepth 100000 in
set_option maxHeartbeats 2000000 in
theorem l24At_any (vb vx:Value) (r:Request) (x:Plan) (k px py z:Int) (w:World) (hb:RL 16777216 4 (flat Box.cells) w w.heap.size vb (x.cartons.map (boxR r))) (hx:RPlan 16777216 w w.heap.size vx x) (hfl:x.spots.length=x.cartons.length) :
  Calls Tryz.prog 118 #[vb,vx,.int .i64 k,.int .i64 px,.int .i64 py,.int .i64 z] w fun e w'=>e=.returned (.int .i64 (firstI (covB r x k z px py) (List.range x.cartons.length)))∧Below w.heap.size w w':=by
 have HX:=Lib.hid hx
 have HFL:=Lib.hid hfl
 obtain ⟨BS,hBS⟩:∃ BS,x.cartons.map (boxR r)=BS:=⟨_,rfl⟩
 have HBS:=Lib.hid hBS
 have hbl:BS.length=x.cartons.length:=by rw [← hBS,List.length_map]
 rw [hBS] at hb
 have HB:=Lib.hid (show RBoxes w w.heap.size vb BS from hb)
 obtain ⟨D,d,rfl,_⟩:=hb
 obtain ⟨PA,ca,PB,cb,rfl,HPA,HPB,hla,hlb⟩:=hx.opn
 rw [hbl] at HB ⊢
 have HBL:=Lib.hid hbl
 have hS:=(((Sit.here w).alloc #[.slice PA x.cartons.length ca,.slice PB x.spots.length cb] 46).alloc #[.int .i64 1,.int .i64 1,.int .i64 1,.int .i64 0] 75).alloc #[.int .i64 k,.int .i64 px,.int .i64 py,.int .i64 z] 72
 simp only [World.size_alloc] at hS
 have SN:=Lib.hid hS
 obtain ⟨p,hp⟩:∃ p,covB r x k z px py=p:=⟨_,rfl⟩
 have HP:=Lib.hid hp
 rw [hp]
 clear hx hS hBS hbl hfl hp
 go_enter Tryz.func118,Tryz.ntmps118
 go_wp2
 go_loopw [15] (fun i wr=>∃ (j:Nat),j≤x.cartons.length∧i=.int .i64 j∧Hid (firstFrom p (List.range x.cartons.length) j=firstI p (List.range x.cartons.length))∧Hid (Sit w wr [fBox (w.heap.size + 1 + 1) #[.int .i64 k,.int .i64 px,.int .i64 py,.int .i64 z] 72,fBox (w.heap.size + 1) #[.int .i64 1,.int .i64 1,.int .i64 1,.int .i64 0] 75,fBox w.heap.size #[.slice PA x.cartons.length ca,.slice PB x.spots.length cb] 46])) (fun i _=>x.cartons.length - (intOf i).toNat)
 case atStart=>exact ⟨0,Nat.zero_le _,rfl,Lib.hid rfl,SN⟩
 case round =>
  clear SN
  obtain ⟨j,hj,rfl,HF,SN⟩:=hrel
  by_cases hlt:j < x.cartons.length
  ·obtain ⟨c,hc⟩:∃ c,x.cartons[j]? = some c:=⟨_,List.getElem?_eq_getElem hlt⟩
   obtain ⟨b1,off1,bx,rfl,hb1,hbx,HC1⟩:=HB.out.one j (by rw [HBL.out];exact hlt)
   obtain ⟨b2,off2,s,rfl,hb2,hs,HC2⟩:=HPB.out.one j (by rw [HFL.out];exact hlt)
   have hbe:boxR r c=bx:=by rw [← HBS.out,List.getElem?_map,hc] at hbx;exact Option.some.inj hbx
   obtain ⟨f,hf⟩:∃ f,overB bx s ⟨1,1,1,0⟩ ⟨k,px,py,z⟩=f:=⟨_,rfl⟩
   have HOV:=Lib.hid hf
   have HPJ:=Lib.hid (show p j=f by rw [← HP.out];unfold covB;rw [boxAt_nat hc,hbe,spotAt_at hs];exact hf)
   have HST:=Lib.hid (firstFrom_step (p:=p) (show (List.range x.cartons.length)[j]? = some j from List.getElem?_range hlt))
   rw [HPJ.out,HF.out] at HST
   have hj2:j < x.spots.length:=by rw [HFL.out];exact hlt
   have HCC:=Lib.hid (show ∀ X:World,Below wr.heap.size wr X→cB5 X b1 off1 j bx∧X.cell? ⟨w.heap.size,1,none⟩=some (.slice (some ⟨b2,off2,none⟩) x.spots.length cb)∧(cS4 (X) (b2) (off2) (j) (s))∧(X.cell? ⟨w.heap.size + 1,0,none⟩=some (.int .i64 1)∧X.cell? ⟨w.heap.size + 1,1,none⟩=some (.int .i64 1)∧X.cell? ⟨w.heap.size + 1,2,none⟩=some (.int .i64 1)∧X.cell? ⟨w.heap.size + 1,3,none⟩=some (.int .i64 0))∧(X.cell? ⟨w.heap.size + 1 + 1,0,none⟩=some (.int .i64 k)∧X.cell? ⟨w.heap.size + 1 + 1,1,none⟩=some (.int .i64 px)∧X.cell? ⟨w.heap.size + 1 + 1,2,none⟩=some (.int .i64 py)∧X.cell? ⟨w.heap.size + 1 + 1,3,none⟩=some (.int .i64 z)) from fun X hX=>by
    have hX:=SN.out.next hX
    have q2:=hX.box (.head _)
    have q1:=hX.box (.tail _ (.head _))
    exact ⟨HC1.out X hX.low,hX.box (.tail _ (.tail _ (.head _))) 1,HC2.out X hX.low,⟨q1 0,q1 1,q1 2,q1 3⟩,⟨q2 0,q2 1,q2 2,q2 3⟩⟩)
   clear hc hbx hbe hs hf
   go_upto_region 6 with fail
   refine regu (S:=(fun W'=>cB5 W' b1 off1 j bx∧W'.cell? ⟨w.heap.size,1,none⟩=some (.slice (some ⟨b2,off2,none⟩) x.spots.length cb)∧(cS4 (W') (b2) (off2) (j) (s))∧(W'.cell? ⟨w.heap.size + 1,0,none⟩=some (.int .i64 1)∧W'.cell? ⟨w.heap.size + 1,1,none⟩=some (.int .i64 1)∧W'.cell? ⟨w.heap.size + 1,2,none⟩=some (.int .i64 1)∧W'.cell? ⟨w.heap.size + 1,3,none⟩=some (.int .i64 0))∧(W'.cell? ⟨w.heap.size + 1 + 1,0,none⟩=some (.int .i64 k)∧W'.cell? ⟨w.heap.size + 1 + 1,1,none⟩=some (.int .i64 px)∧W'.cell? ⟨w.heap.size + 1 + 1,2,none⟩=some (.int .i64 py)∧W'.cell? ⟨w.heap.size + 1 + 1,3,none⟩=some (.int .i64 z)))) (by kernel_rfl) (fun _ _ _ _ _=>id) ?_ fun hHeld=>?_
   ·(first | (refine HCC.out _ ?_;(repeat' with_reducible first | assumption | exact bR | apply bD | apply bA | apply bC | apply bW | omega | simp <;> omega);done) | go_keep)
   refine tku (b:=?_) [0,1,2,3,4,5,6,7,8,9,10] (by kernel_rfl) hHeld ?_ ?_
   rotate_left
   ·repeat first
    |exact .nil
    |refine .yes (v:=?_) rfl (by rfl) ?_ ?_
     rotate_left
     ·intro w9 hSw;(try dsimp only at hSw);go_simp;(try with_reducible rfl)
     (try simp only [aP,aZ,aS,aG,aH,aI])
   refine lsu 11 rfl (by kernel_rfl) fun K hK=>?_
   go_simp
   ((go_at_call 113;refine (sOverlap_any bx s ⟨1,1,1,0⟩ ⟨k,px,py,z⟩ _).mono ?_;rintro e w5 ⟨rfl,hb5⟩;rw [HOV.out];have hn5:=bstep (a:=wr) (by (repeat' with_reducible first | assumption | exact bR | apply bD | apply bA | apply bC | apply bW | omega | simp <;> omega)) hb5))
   refine hK.out _ _ ?_
   clear hK K
   (try simp only [aP,aZ,aS,aG,aH,aI])
   skip
   have SN:=Lib.hid (SN.out.next hn5)
   clear hn5 hb5 HCC
   cases f
   ·go_wp2
    go_roundw
    case rel=>exact ⟨j + 1,hlt,by go_num,Lib.hid (by rw [HST.out];rfl),SN⟩
    case measure=>simp [intOf] <;> omega
   ·go_wp2
    go_ret
    exact ⟨ret_int (by rw [HST.out];rfl),SN.out.low⟩
  ·obtain rfl:j=x.cartons.length:=by omega
   go_wp2
   go_ret
   exact ⟨ret_int (by rw [← HF.out];have:=firstFrom_end p (List.range x.cartons.length);rw [List.length_range] at this;exact this.symm),SN.out.low⟩
end Go.Proofs.YtioijfplbgpjpaaGreat
namespace Go.Proofs.YtioijfplbgpjpaaGreat
set_option linter.unusedVariables false
set_option linter.unusedSimpArgs false
set_option maxRecDepth 100000
open Go.RowKit
def sumTo (f:Nat→Int):Nat→Int
 |0=>0
 |n + 1=>sumTo f n + f n
section
variable {r:Request} {x:Plan} {k:Int}
end
end Go.Proofs.YtioijfplbgpjpaaGreat
namespace Go.Proofs.YtioijfplbgpjpaaGreat
set_option linter.unusedVariables false
set_option linter.unusedSimpArgs false
set_option maxRecDepth 100000
open Go.RowKit
theorem pal_range {r:Request} {x:Plan} (h:feasible r x=true):(1≤r.pallet.w∧r.pallet.w≤2000)∧(1≤r.pallet.d∧r.pallet.d≤2000)∧(1≤r.pallet.h∧r.pallet.h≤2000):=by
 have:=(right_of (feasible_iff.1 h).1).pal
 simp only [palletOk,sideOk,inB,Bool.and_eq_true,decide_eq_true_eq] at this
 omega
section
variable {r:Request} {x:Plan}
end
end Go.Proofs.YtioijfplbgpjpaaGreat
namespace Go.Proofs.YtioijfplbgpjpaaGreat
set_option linter.unusedVariables false
set_option linter.unusedSimpArgs false
set_option maxRecDepth 100000
open Go.RowKit Go.WideShapes Go.ChangeShapes Go.ChangeAt Go.Deep
set_option maxRecDepth 100000 in
set_option maxHeartbeats 4000000 in
theorem sPicture_any (v vx:Value) (r:Request) (x:Plan) (k z:Int) (w:World) (h:RReq 16777216 w w.heap.size v r) (hx:RPlan 16777216 w w.heap.size vx x) (hL:x.bulk≤16777216):Calls Tryz.prog 38 #[v,vx,.int .i64 k,.int .i64 z] w (MOF cS 9 1 w (pictureR r x k z)):=by
 have HR:=Lib.hid h
 have HX:=Lib.hid hx
 obtain ⟨A1,c1,A2,c2,A3,c3,rfl,_⟩:=h.opn
 obtain ⟨PA,ca,PB,cb,rfl,HPA,HPB,hla,hlb⟩:=hx.opn
 have hS:=(((Sit.here w).alloc (cR r A1 c1 A2 c2 A3 c3) 41).alloc #[.slice PA x.cartons.length ca,.slice PB x.spots.length cb] 46).alloc #[] 9
 simp only [World.size_alloc] at hS
 have SN:=Lib.hid (hS.boxNil cS 1)
 obtain ⟨q,hq⟩:∃ q,feasible r x=q:=⟨_,rfl⟩
 have HQ:=Lib.hid hq
 obtain ⟨f1,hf1⟩:∃ f,inB k 0 (wrap64 (palletsR x.spots - 1))=f:=⟨_,rfl⟩
 have HF1:=Lib.hid hf1
 obtain ⟨f2,hf2⟩:∃ f,inB z 0 (wrap64 (r.pallet.h - 1))=f:=⟨_,rfl⟩
 have HF2:=Lib.hid hf2
 have HM:=Lib.hid (show pictureR r x k z=if (q && (decide (r.pallet.w≤40) && (decide (r.pallet.d≤40) && (f1 && f2))))=true then (List.range r.pallet.d.toNat).map (fun y=>byt (rowP r x k z y)) else [] by unfold pictureR drawable;rw [hq,hf1,hf2])
 clear h hx hS hq hf1 hf2
 go_enter Tryz.func38,Tryz.ntmps38
 have k1:=SN.out.box (.tail _ (.head _));have l1:=SN.out.boxlt (.tail _ (.head _));have k0:=SN.out.box (.tail _ (.tail _ (.head _)));have l0:=SN.out.boxlt (.tail _ (.tail _ (.head _)))
 go_wp2_with fail
 refine (sFeasible_any _ _ r x _ (HR.out.next SN.out.low) (HX.out.next SN.out.low) hL).mono ?_
 rintro e1 w1 ⟨rfl,hb1⟩
 rw [HQ.out]
 have SN:=Lib.hid (SN.out.next hb1)
 clear k0 l0 k1 l1 hb1
 cases q
 ·go_wp2
  go_ret
  rw [HM.out]
  exact SN.out.mof
 have k1:=SN.out.box (.tail _ (.head _));have l1:=SN.out.boxlt (.tail _ (.head _));have k0:=SN.out.box (.tail _ (.tail _ (.head _)));have l0:=SN.out.boxlt (.tail _ (.tail _ (.head _)))
 by_cases hw:40 < r.pallet.w
 ·go_wp2
  go_ret
  rw [HM.out,decide_eq_false (show ¬ r.pallet.w≤40 by omega)]
  exact SN.out.mof
 by_cases hd:40 < r.pallet.d
 ·go_wp2
  go_ret
  rw [HM.out,decide_eq_false (show ¬ r.pallet.d≤40 by omega)]
  simp only [Bool.false_and,Bool.and_false]
  exact SN.out.mof
 rw [decide_eq_true (show r.pallet.w≤40 by omega),decide_eq_true (show r.pallet.d≤40 by omega)] at HM
 go_wp2_with fail
 refine (sPallets_any _ x.spots _ (HPB.out.next (flat_mono _) SN.out.low)).mono ?_
 rintro e2 w2 ⟨rfl,rfl⟩
 go_wp2_with fail
 (try simp only [wrapE])
 refine (l1In_any _ _ _ _).mono ?_
 rintro e2 w2 ⟨rfl,rfl⟩
 rw [HF1.out]
 cases f1
 ·go_wp2
  go_ret
  rw [HM.out]
  exact SN.out.mof
 go_wp2_with fail
 (try simp only [wrapE])
 refine (l1In_any _ _ _ _).mono ?_
 rintro e2 w2 ⟨rfl,rfl⟩
 rw [HF2.out]
 cases f2
 ·go_wp2
  go_ret
  rw [HM.out]
  exact SN.out.mof
 have HM:=Lib.hid (show pictureR r x k z=(List.range r.pallet.d.toNat).map (fun y=>byt (rowP r x k z y)) by rw [HM.out];rfl)
 obtain ⟨hpw,hpd,_⟩:=pal_range HQ.out
 obtain ⟨hfl,h100⟩:=feas_len HQ.out
 have HFL:=Lib.hid hfl
 clear hfl
 go_wp2_with fail
 refine (l21Boxes_any _ _ r x _ (HR.out.next SN.out.low) (HX.out.next SN.out.low)).mono ?_
 intro e3 w3 hm
 obtain ⟨vB,fB,rfl,hS⟩:=SN.out.gotOF hm
 obtain ⟨D,d,rfl,_⟩:=(hS.list (.head _)).form
 rw [List.length_map] at hS ⊢
 have SN:=Lib.hid hS.rot2
 clear k0 l0 k1 l1 hS hm
 obtain ⟨Dn,hDn⟩:∃ n:Nat,r.pallet.d.toNat=n:=⟨_,rfl⟩
 obtain ⟨Wn,hWn⟩:∃ n:Nat,r.pallet.w.toNat=n:=⟨_,rfl⟩
 rw [hDn] at HM
 go_wp2
 go_loopw [9,11] (fun vv i wr=>∃ (y:Nat) (fo:List Nat),y≤Dn∧i=.int .i64 y∧Hid (Sit w wr [fOF cS 9 1 w.heap.size vv ((List.range y).map fun y=>byt (rowP r x k z y)) fo,fOF Box.cells 75 4 w.heap.size (.slice D x.cartons.length d) (x.cartons.map (boxR r)) fB,fBox (w.heap.size + 1) #[.slice PA x.cartons.length ca,.slice PB x.spots.length cb] 46,fBox w.heap.size (cR r A1 c1 A2 c2 A3 c3) 41])) (fun _ i _=>Dn - (intOf i).toNat)
 case atStart=>exact ⟨0,_,Nat.zero_le _,rfl,SN⟩
 case round =>
  clear SN
  obtain ⟨y,fo,hy,rfl,SN⟩:=hrel
  obtain ⟨OL,hOL⟩:∃ O,((List.range y).map fun y=>byt (rowP r x k z y))=O:=⟨_,rfl⟩
  have hol:OL.length=y:=by rw [← hOL];simp
  have HTK:=Lib.hid (show ((List.range (y + 1)).map fun y=>byt (rowP r x k z y))=OL ++ [byt (rowP r x k z y)] by rw [range_map_step,hOL])
  rw [hOL] at SN
  obtain ⟨Ao,co,rfl,_⟩:=(SN.out.list (.head _)).form
  have HOL:=Lib.hid hol
  rw [hol] at SN ⊢
  have k0:=SN.out.box (.tail _ (.tail _ (.tail _ (.head _))))
  have l0:=SN.out.boxlt (.tail _ (.tail _ (.tail _ (.head _))))
  by_cases hlt:y < Dn
  ·have hlti:(y:Int) < r.pallet.d:=by omega
   have hS:=SN.out.alloc #[] 5
   have SN:=Lib.hid (hS.boxNil cU 1)
   clear hS hol hOL
   go_wp2
   clear k0 l0
   go_loopw [12,13] (fun vv i wr=>∃ (p:Nat) (fb:List Nat),p≤Wn∧i=.int .i64 p∧Hid (Sit w wr [fOF cU 5 1 w.heap.size vv ((List.range p).map fun q:Nat=>pixS r x k z q y) fb,fOF cS 9 1 w.heap.size (.slice Ao y co) OL fo,fOF Box.cells 75 4 w.heap.size (.slice D x.cartons.length d) (x.cartons.map (boxR r)) fB,fBox (w.heap.size + 1) #[.slice PA x.cartons.length ca,.slice PB x.spots.length cb] 46,fBox w.heap.size (cR r A1 c1 A2 c2 A3 c3) 41])) (fun _ i _=>Wn - (intOf i).toNat)
   case atStart=>exact ⟨0,_,Nat.zero_le _,rfl,SN⟩
   case round =>
    clear SN
    obtain ⟨p,fb,hp,rfl,SN⟩:=hrel
    obtain ⟨BL,hBL⟩:∃ O,((List.range p).map fun q:Nat=>pixS r x k z q y)=O:=⟨_,rfl⟩
    have hbl:BL.length=p:=by rw [← hBL];simp
    have hlb:BL.length≤100:=by omega
    have hbr:∀ u∈BL,0≤u∧u < 256:=by
     intro u hu
     rw [← hBL] at hu
     obtain ⟨q,_,rfl⟩:=List.mem_map.1 hu
     exact pixS_in r x k z q y (by omega)
    have HTP:=Lib.hid (show ((List.range (p + 1)).map fun q:Nat=>pixS r x k z q y)=BL ++ [pixS r x k z p y] by rw [range_map_step,hBL])
    have HBL:=Lib.hid hBL
    rw [hBL] at SN
    obtain ⟨Ab,cb',rfl,_⟩:=(SN.out.list (.head _)).form
    have HLB:=Lib.hid hbl
    rw [hbl] at SN ⊢
    by_cases hltp:p < Wn
    ·have hltpi:(p:Int) < r.pallet.w:=by omega
     obtain ⟨i0,hi0⟩:∃ i,firstI (covB r x k z p y) (List.range x.cartons.length)=i:=⟨_,rfl⟩
     have HI0:=Lib.hid hi0
     have hi1:i0 < x.cartons.length∧-1≤i0:=by
      rw [← hi0]
      have:=firstFrom_lt (covB r x k z p y) (List.range x.cartons.length) 0
      rwa [List.length_range] at this
     have k0:=SN.out.box (.tail _ (.tail _ (.tail _ (.tail _ (.head _)))))
     have l0:=SN.out.boxlt (.tail _ (.tail _ (.tail _ (.tail _ (.head _)))))
     have k1:=SN.out.box (.tail _ (.tail _ (.tail _ (.head _))))
     have l1:=SN.out.boxlt (.tail _ (.tail _ (.tail _ (.head _))))
     clear hbl hBL hi0
     go_wp2_with fail
     refine (l24At_any _ _ r x k p y z _ (OF.read (bd:=16777216) (SN.out.list (v:=.slice D x.cartons.length d) (.tail _ (.tail _ (.head _)))) (fun _=>rfl) (by rw [List.length_map];omega)) (HX.out.next SN.out.low) HFL.out).mono ?_
     rintro e4 w4 ⟨rfl,hb4⟩
     rw [HI0.out]
     have SN:=Lib.hid (SN.out.next hb4)
     clear k0 l0 k1 l1 hb4
     by_cases hneg:i0 < 0
     ·have HPX:=Lib.hid (show pixS r x k z p y=46 by unfold pixS;rw [HI0.out,if_pos hneg])
      go_wp2_with (at_builtin;refine papp_Byte _ _ rfl rfl (46) rfl rfl (alloc_at (by first | rfl | (simp;done) | (simp;omega))) rfl ((SN.out.list (.head _)).next (by repeat' with_reducible first | assumption | exact bR | apply bD | apply bA | apply bC | apply bN | simp <;> omega)) (by first | omega | (simp;omega)) (by have:=SN.out.low.size;first | omega | (simp;done) | (simp;omega) | (simp at this ⊢;omega)) ?_;intro v7 w7 ha;obtain ⟨g7,S7⟩:=(SN.out.next (by repeat' with_reducible first | assumption | exact bR | apply bD | apply bA | apply bC | apply bN | simp <;> omega)).app ha;have S8:=Lib.hid S7;clear S7 ha)
      go_roundw
      case rel=>exact ⟨p + 1,_,hltp,by go_num,by rw [HTP.out,HPX.out];exact S8⟩
      case measure=>simp [intOf] <;> omega
     ·have HPX:=Lib.hid (show pixS r x k z p y=97 + i0 % 26 by unfold pixS;rw [HI0.out,if_neg hneg,sign_mod (by omega)])
      go_wp2_with (at_builtin;refine papp_Byte _ _ rfl rfl (97 + i0 % 26) rfl rfl (alloc_at (by first | rfl | (simp;done) | (simp;omega))) rfl ((SN.out.list (.head _)).next (by repeat' with_reducible first | assumption | exact bR | apply bD | apply bA | apply bC | apply bN | simp <;> omega)) (by first | omega | (simp;omega)) (by have:=SN.out.low.size;first | omega | (simp;done) | (simp;omega) | (simp at this ⊢;omega)) ?_;intro v7 w7 ha;obtain ⟨g7,S7⟩:=(SN.out.next (by repeat' with_reducible first | assumption | exact bR | apply bD | apply bA | apply bC | apply bN | simp <;> omega)).app ha;have S8:=Lib.hid S7;clear S7 ha)
      go_roundw
      case rel=>exact ⟨p + 1,_,hltp,by go_num,by rw [HTP.out,HPX.out];exact S8⟩
      case measure=>simp [intOf] <;> omega
    ·obtain rfl:p=Wn:=by omega
     have hrow:rowP r x k z y=BL:=by rw [← HBL.out];unfold rowP;rw [hWn]
     obtain ⟨u0,hu0⟩:∃ u,BL[0]? = some u:=⟨_,List.getElem?_eq_getElem (by rw [hbl];omega)⟩
     obtain ⟨gb,rfl⟩:=head_ptr (SN.out.list (.head _)) hu0
     have hbk:=of_back (P:=Tryz.prog) (g:=gb) (c:=cb') (xs:=BL) (by rw [hbl];exact SN.out.list (.head _)) hbr 63 9 Tryz.underlying63 Tryz.underlying5 Tryz.underlying9
     rw [hbl] at hbk
     have k0:=SN.out.box (.tail _ (.tail _ (.tail _ (.tail _ (.head _)))))
     have l0:=SN.out.boxlt (.tail _ (.tail _ (.tail _ (.tail _ (.head _)))))
     have HRW:=Lib.hid hrow
     have SN:=Lib.hid SN.out.drop
     have hob:OL.length≤100:=by have:=HOL.out;omega
     clear hbl hBL hu0 hrow
     go_wp2_with (at_builtin;refine papp_String _ _ rfl rfl (byt BL) rfl rfl (alloc_at (by first | rfl | (simp;done) | (simp;omega))) rfl ((SN.out.list (.head _)).next (by repeat' with_reducible first | assumption | exact bR | apply bD | apply bA | apply bC | apply bN | simp <;> omega)) (by first | omega | (simp;omega)) (by have:=SN.out.low.size;first | omega | (simp;done) | (simp;omega) | (simp at this ⊢;omega)) ?_;intro v7 w7 ha;obtain ⟨g7,S7⟩:=(SN.out.next (by repeat' with_reducible first | assumption | exact bR | apply bD | apply bA | apply bC | apply bN | simp <;> omega)).app ha;have S8:=Lib.hid S7;clear S7 ha)
     go_roundw
     case rel=>exact ⟨y + 1,_,hlt,by go_num,by rw [HTK.out,HRW.out];exact S8⟩
     case measure=>simp [intOf] <;> omega
  ·obtain rfl:y=Dn:=by omega
   go_wp2
   go_ret
   rw [HM.out,hOL]
   exact SN.out.mof
end Go.Proofs.YtioijfplbgpjpaaGreat
namespace Go.Proofs.YtioijfplbgpjpaaGreat
set_option linter.unusedVariables false
set_option linter.unusedSimpArgs false
set_option maxRecDepth 100000
open Go.RowKit Go.WideShapes Go.ChangeShapes Go.ChangeAt Go.Deep
def hdB (z:List Int×Nat):List Value:=[.slice (some ⟨z.2,0,none⟩) z.1.length z.1.length]
abbrev fRow (B:Nat) (z:List Int×Nat):Fact:=fOF cU 5 1 B (.slice (some ⟨z.2,0,none⟩) z.1.length z.1.length) z.1 [z.2]
theorem map_split {α β:Type} (F:α→β) {zs:List α} {k:Nat} {z:α} (h:zs[k]? = some z):zs.map F=(zs.take k).map F ++ F z::(zs.drop (k + 1)).map F:=by
 have hk:=(List.getElem?_eq_some_iff.1 h).1
 have e:zs=zs.take k ++ z::zs.drop (k + 1):=by
  have:=List.drop_eq_getElem_cons hk
  rw [(List.getElem?_eq_some_iff.1 h).2] at this
  rw [← this,List.take_append_drop]
 conv=>lhs;rw [e]
 rw [List.map_append,List.map_cons]
theorem map_split_set {α β:Type} (F:α→β) {zs:List α} {k:Nat} {z z':α} (h:zs[k]? = some z):(zs.set k z').map F=(zs.take k).map F ++ F z'::(zs.drop (k + 1)).map F:=by
 have hk:=(List.getElem?_eq_some_iff.1 h).1
 rw [List.set_eq_take_append_cons_drop,if_pos hk,List.map_append,List.map_cons]
section
variable {w W:World} {l:List Fact} {B k j:Nat} {zs:List (List Int×Nat)} {z:List Int×Nat} {u:Int}
theorem Sit.rowSet (l:List Fact) (h:Sit w W (l ++ zs.map (fRow B))) (hz:zs[k]? = some z) (hj:j < z.1.length) (u:Int):Sit w (W.setCell ⟨z.2,j,none⟩ (.int .u8 u)) (l ++ (zs.set k (z.1.set j u,z.2)).map (fRow B)):=by
 have hp:∀ q:Fact,(l ++ ((zs.take k).map (fRow B) ++ q::(zs.drop (k + 1)).map (fRow B))).Perm (q::(l ++ ((zs.take k).map (fRow B) ++ (zs.drop (k + 1)).map (fRow B)))):=fun q=>(List.Perm.append_left l List.perm_middle).trans List.perm_middle
 rw [map_split (fRow B) hz] at h
 have h1:=Sit.put (us:=[.int .u8 u]) (j:=0) (y:=u) (h.perm (hp _)) (fun _=>rfl) (List.getElem?_eq_getElem hj) (by simp) rfl
 rw [map_split_set (fRow B) hz]
 refine Sit.perm ?_ (hp _).symm
 simp only [Nat.mul_one,Nat.add_zero,setW] at h1
 have e:fRow B (z.1.set j u,z.2)=fOF cU 5 1 B (.slice (some ⟨z.2,0,none⟩) z.1.length z.1.length) (z.1.set j u) [z.2]:=by
  show fOF cU 5 1 B (.slice (some ⟨z.2,0,none⟩) (z.1.set j u).length (z.1.set j u).length) (z.1.set j u) [z.2]=_
  rw [List.length_set]
 rw [e]
 exact h1
theorem Sit.rowAdd (l:List Fact) (h:Sit w W (fRow B z::(l ++ zs.map (fRow B)))):Sit w W (l ++ (zs ++ [z]).map (fRow B)):=by
 refine h.perm ?_
 rw [List.map_append,← List.append_assoc]
 exact (List.perm_append_singleton _ _).symm
end
theorem Sit.ink {e B':Nat} {v:Value} {f9:List Nat} {w W:World} {B k j:Nat} {zs:List (List Int×Nat)} {z:List Int×Nat} (l0 l:List Fact) (h:Sit w W (l0 ++ fOF hdB e 1 B' v zs f9::(l ++ zs.map (fRow B)))) (hz:zs[k]? = some z) (hj:j < z.1.length) (u:Int):Sit w (W.setCell ⟨z.2,j,none⟩ (.int .u8 u)) (l0 ++ fOF hdB e 1 B' v (zs.set k (z.1.set j u,z.2)) f9::(l ++ (zs.set k (z.1.set j u,z.2)).map (fRow B))):=by
 have h1:=Sit.rowSet (l0 ++ fOF hdB e 1 B' v zs f9::l) (by simpa using h) hz hj u
 have e1:(zs.set k (z.1.set j u,z.2)).flatMap hdB=zs.flatMap hdB:=by
  rw [List.flatMap_def,List.flatMap_def,List.map_set,show hdB (z.1.set j u,z.2)=hdB z by unfold hdB;simp]
  congr 1
  refine List.ext_getElem? fun i=>?_
  by_cases e:k=i
  ·subst e
   rw [List.getElem?_set_self (by simpa using (List.getElem?_eq_some_iff.1 hz).1),List.getElem?_map,hz];rfl
  ·rw [List.getElem?_set_ne e]
 have e2:fOF hdB e 1 B' v (zs.set k (z.1.set j u,z.2)) f9=fOF hdB e 1 B' v zs f9:=by
  unfold fOF OF
  rw [e1,List.length_set]
 rw [e2]
 simpa using h1
theorem made_zero (n:Nat):(madeCells (Value.int .u8 0).cells (n * 1)).toList=(List.replicate n (0:Int)).flatMap cU:=by
 rw [Nat.mul_one]
 refine List.ext_getElem? fun i=>?_
 have hl:((List.replicate n (0:Int)).flatMap cU)=List.replicate n (Value.int .u8 0):=by
  clear i
  induction n with
  |zero=>rfl
  |succ n ih=>rw [List.replicate_succ,List.flatMap_cons,ih,List.replicate_succ];rfl
 rw [hl]
 unfold madeCells
 rw [Array.toList_map,List.getElem?_map,List.getElem?_replicate]
 by_cases hi:i < n
 ·rw [if_pos hi,Array.toList_range,List.getElem?_range hi]
  simp [Value.cells,Nat.mod_one]
 ·rw [if_neg hi,Array.toList_range,List.getElem?_eq_none (by simp;omega)]
  rfl
def grid (c:Nat→Nat→Int) (Wn Dn:Nat):List (List Int):=(List.range Dn).map fun y=>(List.range Wn).map fun q=>c q y
section
variable {c c':Nat→Nat→Int} {Wn Dn:Nat} {zs:List (List Int×Nat)} {z:List Int×Nat}
theorem grid_congr (h:∀ q y,q < Wn→y < Dn→c q y=c' q y):grid c Wn Dn=grid c' Wn Dn:=by
 unfold grid
 refine List.map_congr_left fun y hy=>List.map_congr_left fun q hq=>?_
 exact h q y (List.mem_range.1 hq) (List.mem_range.1 hy)
theorem grid_at (hz:zs.map (·.1)=grid c Wn Dn) {y:Nat} (hy:y < Dn):∃ z,zs[y]? = some z∧z.1=(List.range Wn).map fun q=>c q y:=by
 have h:(zs.map (·.1))[y]? = some ((List.range Wn).map fun q=>c q y):=by rw [hz];unfold grid;rw [List.getElem?_map,List.getElem?_range hy];rfl
 rw [List.getElem?_map] at h
 cases hc:zs[y]? with
 |none=>rw [hc] at h;cases h
 |some z=>rw [hc] at h;exact ⟨z,rfl,Option.some.inj h⟩
theorem grid_set (hz:zs.map (·.1)=grid c Wn Dn) {y a:Nat} (hzy:zs[y]? = some z) (ha:a < Wn) (u:Int):(zs.set y (z.1.set a u,z.2)).map (·.1)=grid (fun q y'=>if y'=y∧q=a then u else c q y') Wn Dn:=by
 have hy:y < Dn:=by
  have h1:=(List.getElem?_eq_some_iff.1 hzy).1
  have h2:=congrArg List.length hz
  unfold grid at h2
  simp at h2
  omega
 obtain ⟨z',h1,h2⟩:=grid_at hz hy
 rw [hzy] at h1
 obtain rfl:=Option.some.inj h1
 rw [List.map_set,hz]
 unfold grid
 refine List.ext_getElem? fun i=>?_
 rw [List.getElem?_set]
 by_cases hi:i < Dn
 ·rw [List.getElem?_map,List.getElem?_map,List.getElem?_range hi]
  by_cases e:y=i
  ·subst e
   rw [if_pos rfl,if_pos (by simpa using hi),h2]
   simp only [Option.map_some]
   congr 1
   refine List.ext_getElem? fun q=>?_
   rw [List.getElem?_set]
   by_cases hq:q < Wn
   ·rw [List.getElem?_map,List.getElem?_map,List.getElem?_range hq]
    by_cases e2:a=q
    ·subst e2
     rw [if_pos rfl,if_pos (by simpa using hq)]
     simp
    ·rw [if_neg e2]
     simp [Ne.symm e2]
   ·rw [if_neg (by omega),List.getElem?_eq_none (by simp;omega),List.getElem?_eq_none (by simp;omega)]
  ·rw [if_neg e]
   simp [Ne.symm e]
 ·rw [if_neg (by omega),List.getElem?_eq_none (by simp;omega),List.getElem?_eq_none (by simp;omega)]
theorem grid_len (hz:zs.map (·.1)=grid c Wn Dn):zs.length=Dn:=by
 have:=congrArg List.length hz
 unfold grid at this
 simpa using this
end
theorem foldl_step {α:Type} {l:List α} {j:Nat} {i:α} {β:Type} (f:β→α→β) (b:β) (h:l[j]? = some i):(l.take (j + 1)).foldl f b=f ((l.take j).foldl f b) i:=by
 rw [List.take_add_one,h,List.foldl_append];rfl
end Go.Proofs.YtioijfplbgpjpaaGreat
namespace Go.Proofs.YtioijfplbgpjpaaGreat
set_option linter.unusedVariables false
set_option linter.unusedSimpArgs false
set_option maxRecDepth 100000
open Go.RowKit
theorem info_rows:(Tryz.prog.info? 63).map (fun i=>(i.zero,i.size,i.bytes))=some (some (.slice none 0 0),1,24):=by kernel_rfl
theorem one_Row:∀ (y:List Int×Nat),∀ u∈hdB y,u.oneCell'=true:=fun y u hu=>by simp [hdB] at hu;subst hu;rfl
theorem wapp_Row {o:Oper} {a:Act} {K:Act→World→Prop} {Q:Exit→Act→World→Prop} {w:World} (s x:Operand)
  (ho:o.op=.call { callee:=.builtin .append,args:=#[s,x],argTypes:=#[127,127] }) {base bd B:Nat} {v:Value} {xs ys:List (List Int×Nat)} {fp:List Nat} {A:Option Addr} {m c:Nat} (hs:a.eval s=v)
  (hx:a.eval x=.slice A m c) (hr:RL bd 1 (flat hdB) w B (.slice A m c) ys) (hown:OF hdB 63 1 w base v xs fp) (hl:xs.length + ys.length≤33554432) (hbase:base≤w.heap.size)
  (h:∀ v' w',AppOF hdB 63 1 w base (xs ++ ys) fp v' w'→K (a.put o.dst v') w'):o.wp Tryz.prog a w K Q:=by
 obtain ⟨i0,hi,hz0,hz1,hz2⟩:=info_parts info_rows
 have hm:=hr.len_cap.1
 exact wp_appAll w s x 127 ho base 63 i0 _ 1 24 Tryz.underlying127 hi hz0 hz1 hz2 rfl (by omega) v _ _ hs hown.1 bd B hdB A m c ys hx hr hm (fun _=>rfl) one_Row (by unfold maxLen;omega) (by omega) hbase
  (fun v' w' h1 h2 h3=>h v' w' (OF.app_of_row (by rw [List.flatMap_append];exact h1) (by rw [List.length_append,hm]) h2 h3 hown.2))
theorem pappAll_Row {ops:Array Oper} {rest:List Oper} {o:Oper} {a:Act} {Q:Exit→Act→World→Prop} {w:World} (s x:Operand) (hgd:o.guard=none)
  (ho:o.op=.call { callee:=.builtin .append,args:=#[s,x],argTypes:=#[127,127] }) {base bd B:Nat} {v:Value} {xs ys:List (List Int×Nat)} {fp:List Nat} {A:Option Addr} {m c:Nat} (hs:a.eval s=v)
  (hx:a.eval x=.slice A m c) (hr:RL bd 1 (flat hdB) w B (.slice A m c) ys) (hown:OF hdB 63 1 w base v xs fp) (hl:xs.length + ys.length≤33554432) (hbase:base≤w.heap.size)
  (h:∀ v' w',AppOF hdB 63 1 w base (xs ++ ys) fp v' w'→wpList Tryz.prog ops Q rest (a.put o.dst v') w'):wpList Tryz.prog ops Q (o::rest) a w :=
 wpList_plain hgd fun _ hK=>wapp_Row s x ho hs hx hr hown hl hbase fun v' w' ha=>hK _ _ (h v' w' ha)
theorem papp_Row {ops:Array Oper} {rest:List Oper} {o:Oper} {a:Act} {Q:Exit→Act→World→Prop} {w:World} (s x:Operand) (hgd:o.guard=none)
  (ho:o.op=.call { callee:=.builtin .append,args:=#[s,x],argTypes:=#[127,127] }) {base:Nat} {v:Value} {xs:List (List Int×Nat)} {fp:List Nat} (y:(List Int×Nat)) {news:Array Value} {N:Nat} (hs:a.eval s=v)
  (hx:a.eval x=.slice (some ⟨N,0,none⟩) 1 1) (hN:w.heap[N]? = some (.cells news 63 (0,0))) (hy:news=(hdB y).toArray) (hown:OF hdB 63 1 w base v xs fp) (hl:xs.length < 16777216) (hbase:base≤w.heap.size)
  (h:∀ v' w',AppOF hdB 63 1 w base (xs ++ [y]) fp v' w'→wpList Tryz.prog ops Q rest (a.put o.dst v') w'):wpList Tryz.prog ops Q (o::rest) a w :=
 pappAll_Row s x hgd ho hs hx (RL_one1 hN hy rfl (Nat.lt_succ_self N)) hown (by simp;omega) hbase h
end Go.Proofs.YtioijfplbgpjpaaGreat
namespace Go.Proofs.YtioijfplbgpjpaaGreat
set_option linter.unusedVariables false
set_option linter.unusedSimpArgs false
set_option maxRecDepth 100000
open Go.RowKit Go.WideShapes Go.ChangeShapes Go.ChangeAt Go.Deep
def inkC (s:Spot) (b:Box) (g:Int) (c:Nat→Nat→Int) (y a:Int) (q p:Nat):Int:=if (s.x≤q∧q < s.x + b.w)∧(s.y≤p∧p < y) ∨ (s.x≤q∧q < a)∧(p:Int)=y then g else c q p
set_option maxRecDepth 100000 in
set_option maxHeartbeats 8000000 in
theorem iPicture_any (v vx:Value) (r:Request) (x:Plan) (k z:Int) (w:World) (h:RReq 16777216 w w.heap.size v r) (hx:RPlan 16777216 w w.heap.size vx x) (hL:x.bulk≤16777216):Calls Tryz.prog 39 #[v,vx,.int .i64 k,.int .i64 z] w (MOF cS 9 1 w (pictureR r x k z)):=by
 have HR:=Lib.hid h
 have HX:=Lib.hid hx
 obtain ⟨A1,c1,A2,c2,A3,c3,rfl,_⟩:=h.opn
 obtain ⟨PA,ca,PB,cb,rfl,HPA,HPB,hla,hlb⟩:=hx.opn
 have hS:=(((Sit.here w).alloc (cR r A1 c1 A2 c2 A3 c3) 41).alloc #[.slice PA x.cartons.length ca,.slice PB x.spots.length cb] 46).alloc #[.int .i64 r.pallet.w,.int .i64 r.pallet.d,.int .i64 r.pallet.h,.int .i64 r.pallet.gram] 36
 simp only [World.size_alloc] at hS
 have SN:=Lib.hid hS
 obtain ⟨q,hq⟩:∃ q,feasible r x=q:=⟨_,rfl⟩
 have HQ:=Lib.hid hq
 obtain ⟨f1,hf1⟩:∃ f,inB k 0 (wrap64 (palletsR x.spots - 1))=f:=⟨_,rfl⟩
 have HF1:=Lib.hid hf1
 obtain ⟨f2,hf2⟩:∃ f,inB z 0 (wrap64 (r.pallet.h - 1))=f:=⟨_,rfl⟩
 have HF2:=Lib.hid hf2
 have HM:=Lib.hid (show pictureR r x k z=if (q && (decide (r.pallet.w≤40) && (decide (r.pallet.d≤40) && (f1 && f2))))=true then (List.range r.pallet.d.toNat).map (fun y=>byt (rowP r x k z y)) else [] by unfold pictureR drawable;rw [hq,hf1,hf2])
 have HNIL:=Lib.hid (fun (W:World) (l:List Fact) (S:Sit w W l)=>(S.addNil (f:=cS) (e:=9) (K:=1) w.heap.size).mof)
 clear h hx hS hq hf1 hf2
 go_enter Tryz.func39,Tryz.ntmps39
 have k1:=SN.out.box (.tail _ (.head _));have l1:=SN.out.boxlt (.tail _ (.head _));have k0:=SN.out.box (.tail _ (.tail _ (.head _)));have l0:=SN.out.boxlt (.tail _ (.tail _ (.head _)))
 go_wp2_with fail
 refine (iFeasible_any _ _ r x _ (HR.out.next SN.out.low) (HX.out.next SN.out.low) hL).mono ?_
 rintro e1 w1 ⟨rfl,hb1⟩
 rw [HQ.out]
 have SN:=Lib.hid (SN.out.next hb1)
 clear k0 l0 k1 l1 hb1
 cases q
 ·go_wp2
  go_ret
  rw [HM.out]
  exact HNIL.out _ _ SN.out
 have k2:=SN.out.box (.head _);have l2:=SN.out.boxlt (.head _)
 have k1:=SN.out.box (.tail _ (.head _));have l1:=SN.out.boxlt (.tail _ (.head _))
 by_cases hw:40 < r.pallet.w
 ·go_wp2
  go_ret
  rw [HM.out,decide_eq_false (show ¬ r.pallet.w≤40 by omega)]
  exact HNIL.out _ _ SN.out
 by_cases hd:40 < r.pallet.d
 ·go_wp2
  go_ret
  rw [HM.out,decide_eq_false (show ¬ r.pallet.d≤40 by omega)]
  simp only [Bool.false_and,Bool.and_false]
  exact HNIL.out _ _ SN.out
 rw [decide_eq_true (show r.pallet.w≤40 by omega),decide_eq_true (show r.pallet.d≤40 by omega)] at HM
 go_wp2_with fail
 refine (iPallets_any _ x.spots _ (HPB.out.next (flat_mono _) SN.out.low)).mono ?_
 rintro e2 w2 ⟨rfl,hb2⟩
 have SN:=Lib.hid (SN.out.next hb2)
 clear k1 l1 k2 l2 hb2
 have k2:=SN.out.box (.head _);have l2:=SN.out.boxlt (.head _)
 go_wp2_with fail
 (try simp only [wrapE])
 refine (in_any _ _ _ _).mono ?_
 rintro e2 w3 ⟨rfl,rfl⟩
 rw [HF1.out]
 cases f1
 ·go_wp2
  go_ret
  rw [HM.out]
  exact HNIL.out _ _ SN.out
 go_wp2_with fail
 (try simp only [wrapE])
 refine (in_any _ _ _ _).mono ?_
 rintro e2 w3 ⟨rfl,rfl⟩
 rw [HF2.out]
 cases f2
 ·go_wp2
  go_ret
  rw [HM.out]
  exact HNIL.out _ _ SN.out
 have HM:=Lib.hid (show pictureR r x k z=(List.range r.pallet.d.toNat).map (fun y=>byt (rowP r x k z y)) by rw [HM.out];rfl)
 obtain ⟨hpw,hpd,hph⟩:=pal_range HQ.out
 obtain ⟨hfl,h100⟩:=feas_len HQ.out
 have HFL:=Lib.hid hfl
 have HZ:=Lib.hid (show 0≤z∧z≤2000 by
  have h1:=inB_iff.1 HF2.out
  have h2:wrap64 (r.pallet.h - 1)=r.pallet.h - 1:=by unfold wrap64;omega
  omega)
 clear hfl
 obtain ⟨Wn,hW⟩:∃ n:Nat,r.pallet.w=n:=⟨r.pallet.w.toNat,by omega⟩
 obtain ⟨Dn,hD⟩:∃ n:Nat,r.pallet.d=n:=⟨r.pallet.d.toNat,by omega⟩
 have hWn:1≤Wn∧Wn≤40:=by omega
 have hDn:1≤Dn∧Dn≤40:=by omega
 have HM:=Lib.hid (show pictureR r x k z=(List.range Dn).map (fun y=>byt (rowP r x k z y)) by rw [HM.out,hD,Int.toNat_natCast])
 have SN:=Lib.hid ((SN.out.alloc #[] 63).boxNil hdB 1)
 clear k2 l2
 have k2:=SN.out.box (.tail _ (.head _));have l2:=SN.out.boxlt (.tail _ (.head _))
 go_wp2
 clear k2 l2
 go_loopw [10,58] (fun vv i wr=>∃ (y:Nat) (zs:List (List Int×Nat)) (f9:List Nat),y≤Dn∧i=.int .i64 y∧zs.map (·.1)=List.replicate y (List.replicate Wn 46)∧Hid (Sit w wr (fOF hdB 63 1 w.heap.size vv zs f9::fBox (w.heap.size + 1 + 1) #[.int .i64 r.pallet.w,.int .i64 r.pallet.d,.int .i64 r.pallet.h,.int .i64 r.pallet.gram] 36::fBox (w.heap.size + 1) #[.slice PA x.cartons.length ca,.slice PB x.spots.length cb] 46::fBox w.heap.size (cR r A1 c1 A2 c2 A3 c3) 41::zs.map (fRow w.heap.size)))) (fun _ i _=>Dn - (intOf i).toNat)
 case atStart=>exact ⟨0,[],_,Nat.zero_le _,rfl,rfl,SN⟩
 case round =>
  clear SN
  obtain ⟨y,zs,f9,hy,rfl,hzs,SN⟩:=hrel
  have HZS:=Lib.hid hzs
  have hzl:zs.length=y:=by have:=congrArg List.length hzs;simpa using this
  by_cases hlt:y < Dn
  ·have hlti:(y:Int) < r.pallet.d:=by omega
   obtain ⟨i0,hi,hz0,hz1,hz2⟩:=info_parts info_u8
   have k2:=SN.out.box (.tail _ (.head _));have l2:=SN.out.boxlt (.tail _ (.head _))
   clear hzs
   go_wp2_with (at_make;refine wpList_make_full _ rfl _ _ 63 rfl wr.heap.size 5 i0 _ 1 Tryz.underlying63 hi hz0 hz1 _ _ _ _ Wn rfl rfl rfl rfl (by rw [hz2];omega) (by unfold maxLen;omega) (Nat.le_refl _) ?_;intro w4 hown hg)
   have hb4:Below wr.heap.size wr w4:=(Below.refl _ _).grown hg (Nat.le_refl _) (fun k hk=>by cases hk)
   have hO:OF cU 5 1 w4 wr.heap.size (.slice (some ⟨wr.heap.size,0,none⟩) Wn Wn) (List.replicate Wn (0:Int)) [wr.heap.size]:=⟨by rw [List.length_replicate,← made_zero];exact hown,rfl⟩
   have hS:=fOF_low (W':=w4) (SN.out.addOF hb4 hO (Nat.le_refl _)) SN.out.low.size
   have SN:=Lib.hid hS
   obtain ⟨g,hgg⟩:∃ g,wr.heap.size=g:=⟨_,rfl⟩
   rw [hgg] at SN ⊢
   clear hi hz0 hz1 hz2 hg hown hO hb4 k2 l2 hgg hS
   go_wp2
   go_loopw [65] (fun i wr=>∃ (j:Nat),j≤Wn∧i=.int .i64 j∧Hid (Sit w wr (fOF cU 5 1 w.heap.size (.slice (some ⟨g,0,none⟩) Wn Wn) (List.replicate j 46 ++ List.replicate (Wn - j) 0) [g]::fOF hdB 63 1 w.heap.size u10 zs f9::fBox (w.heap.size + 1 + 1) #[.int .i64 r.pallet.w,.int .i64 r.pallet.d,.int .i64 r.pallet.h,.int .i64 r.pallet.gram] 36::fBox (w.heap.size + 1) #[.slice PA x.cartons.length ca,.slice PB x.spots.length cb] 46::fBox w.heap.size (cR r A1 c1 A2 c2 A3 c3) 41::zs.map (fRow w.heap.size)))) (fun i _=>Wn - (intOf i).toNat)
   case atStart=>exact ⟨0,Nat.zero_le _,rfl,SN⟩
   case round =>
    clear SN
    obtain ⟨j,hj,rfl,SN⟩:=hrel
    by_cases hltj:j < Wn
    ·have hfr:=fun o=>(SN.out.list (.head _)).free o
     have hx0:(List.replicate j (46:Int) ++ List.replicate (Wn - j) 0)[j]? = some 0:=by rw [List.getElem?_append_right (by simp),List.length_replicate,Nat.sub_self,List.getElem?_replicate,if_pos (by omega)]
     have hce:=(SN.out.list (.head _)).cells (fun _=>rfl) hx0 0 _ rfl
     rw [Nat.mul_one,Nat.add_zero] at hce
     have hS:=Sit.put (us:=[.int .u8 46]) (j:=0) (y:=46) SN.out (fun _=>rfl) hx0 (by simp) rfl
     have hse:(List.replicate j (46:Int) ++ List.replicate (Wn - j) 0).set j 46=List.replicate (j + 1) 46 ++ List.replicate (Wn - (j + 1)) 0:=by
      rw [List.set_append_right _ _ (by simp),List.length_replicate,Nat.sub_self,show Wn - j=(Wn - (j + 1)) + 1 by omega,List.replicate_succ,List.set_cons_zero,List.replicate_succ',List.append_assoc];rfl
     rw [hse] at hS
     simp only [Nat.mul_one,Nat.add_zero,setW] at hS
     have SF:=Lib.hid hS
     clear hx0 hS hse
     go_wp2
     go_roundw
     case rel=>exact ⟨j + 1,hltj,by go_num,SF⟩
     case measure=>simp [intOf] <;> omega
    ·obtain rfl:j=Wn:=by omega
     rw [Nat.sub_self,List.replicate_zero,List.append_nil] at SN
     have HRE:=Lib.hid (show fRow w.heap.size (List.replicate j (46:Int),g)=fOF cU 5 1 w.heap.size (.slice (some ⟨g,0,none⟩) j j) (List.replicate j 46) [g] by
      show fOF cU 5 1 w.heap.size (.slice (some ⟨g,0,none⟩) (List.replicate j (46:Int)).length (List.replicate j (46:Int)).length) (List.replicate j 46) [g]=_
      rw [List.length_replicate])
     have SM:=Lib.hid SN.out.rot2
     obtain ⟨A9,c9,rfl,_⟩:=(SM.out.list (.head _)).form
     go_wp2_with (at_builtin;refine papp_Row _ _ rfl rfl (List.replicate j 46,g) rfl rfl (alloc_at (by first | rfl | (simp;done) | (simp;omega))) (by simp [hdB]) ((SM.out.list (.head _)).next (by repeat' with_reducible first | assumption | exact bR | apply bD | apply bA | apply bC | apply bN | simp <;> omega)) (by omega) (by have:=SM.out.low.size;simp;omega) ?_;intro v7 w7 ha;obtain ⟨g7,S7⟩:=(SM.out.next (by repeat' with_reducible first | assumption | exact bR | apply bD | apply bA | apply bC | apply bN | simp <;> omega)).app ha)
     have S8:=Lib.hid (Sit.rowAdd (z:=(List.replicate j 46,g)) [fOF hdB 63 1 w.heap.size v7 _ g7,fBox (w.heap.size + 1 + 1) #[.int .i64 r.pallet.w,.int .i64 r.pallet.d,.int .i64 r.pallet.h,.int .i64 r.pallet.gram] 36,fBox (w.heap.size + 1) #[.slice PA x.cartons.length ca,.slice PB x.spots.length cb] 46,fBox w.heap.size (cR r A1 c1 A2 c2 A3 c3) 41] (by rw [HRE.out];exact S7.rot2))
     clear S7 ha
     go_roundw
     case rel=>exact ⟨y + 1,zs ++ [(List.replicate j 46,g)],g7,hlt,by go_num,by rw [List.map_append,HZS.out,List.replicate_succ'];rfl,S8⟩
     case measure=>simp [intOf] <;> omega
  ·obtain rfl:y=Dn:=by omega
   have HG:=Lib.hid (show zs.map (·.1)=grid (fun _ _=>46) Wn y by
    rw [hzs];unfold grid
    refine List.ext_getElem? fun i=>?_
    rw [List.getElem?_replicate,List.getElem?_map]
    by_cases hi:i < y
    ·rw [if_pos hi,List.getElem?_range hi]
     simp only [Option.map_some]
     congr 1
     refine List.ext_getElem? fun a=>?_
     rw [List.getElem?_replicate,List.getElem?_map]
     by_cases ha:a < Wn
     ·rw [if_pos ha,List.getElem?_range ha];rfl
     ·rw [if_neg ha,List.getElem?_eq_none (by simp;omega)];rfl
    ·rw [if_neg hi,List.getElem?_eq_none (by simp;omega)];rfl)
   clear hzs HZS
   have k1:=SN.out.box (g:=w.heap.size + 1) (cs:=#[.slice PA x.cartons.length ca,.slice PB x.spots.length cb]) (t:=46) (.tail _ (.tail _ (.head _)))
   have l1:=SN.out.boxlt (g:=w.heap.size + 1) (cs:=#[.slice PA x.cartons.length ca,.slice PB x.spots.length cb]) (t:=46) (.tail _ (.tail _ (.head _)))
   have k0:=SN.out.box (g:=w.heap.size) (cs:=(cR r A1 c1 A2 c2 A3 c3)) (t:=41) (.tail _ (.tail _ (.tail _ (.head _))))
   have l0:=SN.out.boxlt (g:=w.heap.size) (cs:=(cR r A1 c1 A2 c2 A3 c3)) (t:=41) (.tail _ (.tail _ (.tail _ (.head _))))
   have HWD:=Lib.hid (And.intro hW hD)
   clear hW hD
   go_wp2_with fail
   refine (iatHeight_any _ _ r x k z _ (HR.out.next SN.out.low) (HX.out.next SN.out.low)).mono ?_
   intro e5 w5 hm
   obtain ⟨v5,fk,rfl,hS⟩:=SN.out.gotInts hm
   obtain ⟨D,d,rfl,_⟩:=(hS.list (.head _)).form
   have SN:=Lib.hid hS.rot2
   obtain ⟨LH,hLH⟩:∃ L,atHeight r x k z=L:=⟨_,rfl⟩
   have HLH:=Lib.hid hLH
   have hll:LH.length≤x.cartons.length:=by rw [← hLH];exact atHeight_le r x k z
   rw [hLH] at SN ⊢
   clear k1 l1 k0 l0 hS hm hLH
   obtain ⟨gr,hgr⟩:∃ g c,u10=.slice (some ⟨g,0,none⟩) zs.length c:=by
    obtain ⟨A,c,e,_⟩:=(SN.out.list (.head _)).form
    obtain ⟨zr,hzr⟩:∃ zr,zs[0]? = some zr:=⟨_,List.getElem?_eq_getElem (by omega)⟩
    subst e
    obtain ⟨g,rfl⟩:=head_ptr (SN.out.list (.head _)) hzr
    exact ⟨g,c,rfl⟩
   obtain ⟨c9,rfl⟩:=hgr
   rw [hzl] at SN ⊢
   clear hzl
   go_wp2
   go_loopw [83] (fun i wr=>∃ (j:Nat) (zs:List (List Int×Nat)),j≤LH.length∧i=.int .i64 j∧Hid (zs.map (·.1)=grid (fun q p=>(LH.take j).foldl (pixStep r x q p) 46) Wn y)∧Hid (Sit w wr (fOF hdB 63 1 w.heap.size (.slice (some ⟨gr,0,none⟩) y c9) zs f9::fOF cI 3 1 w.heap.size (.slice D LH.length d) (LH) fk::fBox (w.heap.size + 1 + 1) #[.int .i64 r.pallet.w,.int .i64 r.pallet.d,.int .i64 r.pallet.h,.int .i64 r.pallet.gram] 36::fBox (w.heap.size + 1) #[.slice PA x.cartons.length ca,.slice PB x.spots.length cb] 46::fBox w.heap.size (cR r A1 c1 A2 c2 A3 c3) 41::zs.map (fRow w.heap.size)))) (fun i _=>LH.length - (intOf i).toNat)
   case atStart=>exact ⟨0,zs,Nat.zero_le _,rfl,HG,SN⟩
   case round =>
    clear SN HG
    obtain ⟨j,zs,hj,rfl,HG,SN⟩:=hrel
    by_cases hltj:j < LH.length
    ·obtain ⟨i,hi⟩:∃ i,LH[j]? = some i:=⟨_,List.getElem?_eq_getElem hltj⟩
     obtain ⟨m,rfl,hm1,hm2⟩:=atHeight_in (by rw [HLH.out];exact hi)
     have HST:=Lib.hid (fun q p:Nat=>foldl_step (pixStep r x q p) (46:Int) hi)
     obtain ⟨gd,rfl⟩:=head_ptr (SN.out.list (.tail _ (.head _))) hi
     have hcu:=(SN.out.list (.tail _ (.head _))).cells (fun z=>rfl) hi 0 (.int .i64 (m:Int)) rfl
     rw [Nat.mul_one,Nat.add_zero] at hcu
     obtain ⟨b,off,c,U,cu,rfl,hb,hc,HU,HC⟩:=HPA.out.one m hm1
     obtain ⟨b2,off2,s,rfl,hb2,hs,HC2⟩:=HPB.out.one m hm2
     obtain ⟨bx,hbx⟩:∃ bx,boxR r c=bx:=⟨_,rfl⟩
     have HBX:=Lib.hid hbx
     have HSA:=Lib.hid (spotAt_at hs)
     have HBA:=Lib.hid (show boxAt r x (m:Int)=bx by rw [boxAt_nat hc,hbx])
     have hin:=within_facts (feas_inside HQ.out hm1)
     rw [HSA.out,HBA.out] at hin
     have HIN:=Lib.hid hin
     have HCC:=Lib.hid (show ∀ X:World,Below wr.heap.size wr X→(cS10 (X) (w.heap.size) (r) (.slice A1 r.pairs.length c1) (.slice A2 r.types.length c2) (.slice A3 r.items.length c3))∧(X.cell? ⟨w.heap.size + 1,0,none⟩=some (.slice (some ⟨b,off,none⟩) x.cartons.length ca)∧X.cell? ⟨w.heap.size + 1,1,none⟩=some (.slice (some ⟨b2,off2,none⟩) x.spots.length cb))∧(cC3 (X) (b) (off) (m) (c) (.slice U c.units.length cu))∧cS4 (X) (b2) (off2) (m) (s) from fun X hX=>by
      have hX:=SN.out.next hX
      have c0:=hX.box (.tail _ (.tail _ (.tail _ (.tail _ (.head _)))))
      exact ⟨⟨c0 0,c0 1,c0 2,c0 3,c0 4,c0 5,c0 6,c0 7,c0 8,c0 9⟩,⟨hX.box (.tail _ (.tail _ (.tail _ (.head _)))) 0,hX.box (.tail _ (.tail _ (.tail _ (.head _)))) 1⟩,HC.out X hX.low,HC2.out X hX.low⟩)
     clear hi hc hs hbx hin
     obtain ⟨L0,hL0⟩:∃ L,(fOF hdB 63 1 w.heap.size (.slice (some ⟨gr,0,none⟩) y c9) zs f9::fOF cI 3 1 w.heap.size (.slice (some ⟨gd,0,none⟩) LH.length d) (LH) fk::fBox (w.heap.size + 1 + 1) #[.int .i64 r.pallet.w,.int .i64 r.pallet.d,.int .i64 r.pallet.h,.int .i64 r.pallet.gram] 36::fBox (w.heap.size + 1) #[.slice (some ⟨b,off,none⟩) x.cartons.length ca,.slice (some ⟨b2,off2,none⟩) x.spots.length cb] 46::fBox w.heap.size (cR r A1 c1 A2 c2 A3 c3) 41::zs.map (fRow w.heap.size))=L:=⟨_,rfl⟩
     have SM:=Lib.hid (show Sit w wr L0 by rw [← hL0];exact SN.out)
     clear SN
     have SN:=SM
     clear SM
     go_upto_region 18 with fail
     clear hcu
     go_cut [15,16] (fun v7 v8 X=>∃ g7 g8,v7=.pointer (some ⟨g7,0,none⟩)∧v8=.pointer (some ⟨g8,0,none⟩)∧Hid (Sit w X (fBox g7 #[.int .i64 bx.w,.int .i64 bx.d,.int .i64 bx.h,.int .i64 bx.gram] 75::fBox g8 #[.int .i64 s.pallet,.int .i64 s.x,.int .i64 s.y,.int .i64 s.z] 72::L0)))
     case first =>
      clear hL0 HPA HPB HX HF1 HF2 HM HQ HBA HSA HC HC2 hla hlb hL HIN HST HG HLH HNIL HFL HZ hll h100
      refine regu (S:=(fun W'=>((cS10 (W') (w.heap.size) (r) (.slice A1 r.pairs.length c1) (.slice A2 r.types.length c2) (.slice A3 r.items.length c3)))∧(W'.cell? ⟨w.heap.size + 1,0,none⟩=some (.slice (some ⟨b,off,none⟩) x.cartons.length ca)∧W'.cell? ⟨w.heap.size + 1,1,none⟩=some (.slice (some ⟨b2,off2,none⟩) x.spots.length cb))∧(cC3 (W') (b) (off) (m) (c) (.slice U c.units.length cu))∧cS4 (W') (b2) (off2) (m) (s))) (by kernel_rfl) (fun _ _ _ _ _=>id) ?_ fun hHeld=>?_
      ·(first | (refine HCC.out _ ?_;(repeat' with_reducible first | assumption | exact bR | apply bD | apply bA | apply bC | apply bW | omega | simp <;> omega);done) | go_keep)
      have SN:=Lib.hid SN.out.drew
      refine tku (b:=?_) [0,1,2,3,4,5,7,8,9,10,11] (by kernel_rfl) hHeld ?_ ?_
      rotate_left
      ·repeat first
       |exact .nil
       |refine .yes (v:=?_) rfl (by rfl) ?_ ?_
        rotate_left
        ·intro w9 hSw;(try dsimp only at hSw);go_simp;(try with_reducible rfl)
        (try simp only [aP,aZ,aS,aG,aH,aI])
      refine smu [6,12,13] (by kernel_rfl) ?_
      refine .cons rfl (by kernel_rfl) (fun K hK=>?_) ?_
      ·go_simp
       ((go_at_call 53;refine (iBoxOf_any _ _ r c _ (HR.out.next SN.out.low) (HU.out.next (flat_mono _) SN.out.low)).mono ?_;rintro e w2 ⟨rfl,hb2⟩;rw [HBX.out];have hn2:=bstep (a:=wr) (by (repeat' with_reducible first | assumption | exact bR | apply bD | apply bA | apply bC | apply bW | omega | simp <;> omega)) hb2;have SN:=Lib.hid (SN.out.next hb2);(try (have hg7:=SN.out.on (fBox _ #[.int .i64 0,.int .i64 0,.int .i64 0,.int .i64 0] 75) (by first | exact .head _ | exact .tail _ (.head _));have hgc7:=fun j=>cell_of_row _ _ j _ _ (0,0) hg7;have hgf7:=fun j=>frozen_of_row _ _ j _ _ hg7;have hgl7:=lt_of_block hg7;(try simp only [World.size_alloc,World.size_drew] at hg7 hgc7 hgf7 hgl7)));(try (have hg8:=SN.out.on (fBox _ #[.int .i64 0,.int .i64 0,.int .i64 0,.int .i64 0] 72) (by first | exact .head _ | exact .tail _ (.head _));have hgc8:=fun j=>cell_of_row _ _ j _ _ (0,0) hg8;have hgf8:=fun j=>frozen_of_row _ _ j _ _ hg8;have hgl8:=lt_of_block hg8;(try simp only [World.size_alloc,World.size_drew] at hg8 hgc8 hgf8 hgl8)))))
       refine hK.out _ _ ?_ (fun hHeld=>?_)
       ·(first | (refine HCC.out _ ?_;(repeat' with_reducible first | assumption | exact bR | apply bD | apply bA | apply bC | apply bW | omega | simp <;> omega);done) | go_keep)
       clear hK K
       (try simp only [aP,aZ,aS,aG,aH,aI])
       refine smu [12,13] (by kernel_rfl) ?_
       refine .cons rfl (by kernel_rfl) (fun K hK=>?_) ?_
       ·go_simp
        (have SN:=Lib.hid (SN.out.alloc #[.int .i64 0,.int .i64 0,.int .i64 0,.int .i64 0] 75))
        refine hK.out _ _ ?_ (fun hHeld=>?_)
        ·(first | (refine HCC.out _ ?_;(repeat' with_reducible first | assumption | exact bR | apply bD | apply bA | apply bC | apply bW | omega | simp <;> omega);done) | go_keep)
        clear hK K
        (try simp only [aP,aZ,aS,aG,aH,aI])
        refine onu 13 rfl (by kernel_rfl) fun K hK=>?_
        go_simp
        (have SN:=Lib.hid (SN.out.alloc #[.int .i64 0,.int .i64 0,.int .i64 0,.int .i64 0] 72))
        refine hK.out _ _ ?_ (fun hHeld=>?_)
        ·(first | (refine HCC.out _ ?_;(repeat' with_reducible first | assumption | exact bR | apply bD | apply bA | apply bC | apply bW | omega | simp <;> omega);done) | go_keep)
        clear hK K
        (try simp only [aP,aZ,aS,aG,aH,aI])
        refine onu 14 rfl (by kernel_rfl) fun K hK=>?_
        go_simp
        (have SN:=Lib.hid (Sit.overL (t:=75) (cs:=[.int .i64 0,.int .i64 0,.int .i64 0,.int .i64 0]) [.int .i64 bx.w,.int .i64 bx.d,.int .i64 bx.h,.int .i64 bx.gram] 0 (by first | exact SN.out | exact SN.out.rot2)))
        refine hK.out _ _ ?_ (fun hHeld=>?_)
        ·(first | (refine HCC.out _ ?_;(repeat' with_reducible first | assumption | exact bR | apply bD | apply bA | apply bC | apply bW | omega | simp <;> omega);done) | go_keep)
        clear hK K
        (try simp only [aP,aZ,aS,aG,aH,aI])
        refine lsu 15 rfl (by kernel_rfl) fun K hK=>?_
        go_simp
        (have SN:=Lib.hid (Sit.overL (t:=72) (cs:=[.int .i64 0,.int .i64 0,.int .i64 0,.int .i64 0]) [.int .i64 s.pallet,.int .i64 s.x,.int .i64 s.y,.int .i64 s.z] 0 (by first | exact SN.out | exact SN.out.rot2)))
        refine hK.out _ _ ?_
        clear hK K
        (try simp only [aP,aZ,aS,aG,aH,aI])
        go_wp2_with fail
        go_meet
        refine ⟨_,_,rfl,rfl,?_⟩
        (have HSN:=SN.out.rot2;clear HCC HR HU HBX SN hn2;(first | simp [setW,setL,World.setCell_alloc_at,World.setCell_alloc_past,World.size_alloc,hgl7,hgl8] at HSN | simp [setW,setL,World.setCell_alloc_at,World.setCell_alloc_past,World.size_alloc,hgl7] at HSN | simp [setW,setL,World.setCell_alloc_at,World.setCell_alloc_past,World.size_alloc,hgl8] at HSN | simp [setW,setL,World.setCell_alloc_at,World.setCell_alloc_past,World.size_alloc] at HSN);refine Lib.hid ?_;with_reducible exact HSN)
       refine .cons rfl (by kernel_rfl) (fun K hK=>?_) ?_
       ·go_simp
        (have SN:=Lib.hid (SN.out.alloc #[.int .i64 0,.int .i64 0,.int .i64 0,.int .i64 0] 72))
        refine hK.out _ _ ?_ (fun hHeld=>?_)
        ·(first | (refine HCC.out _ ?_;(repeat' with_reducible first | assumption | exact bR | apply bD | apply bA | apply bC | apply bW | omega | simp <;> omega);done) | go_keep)
        clear hK K
        (try simp only [aP,aZ,aS,aG,aH,aI])
        refine onu 12 rfl (by kernel_rfl) fun K hK=>?_
        go_simp
        (have SN:=Lib.hid (SN.out.alloc #[.int .i64 0,.int .i64 0,.int .i64 0,.int .i64 0] 75))
        refine hK.out _ _ ?_ (fun hHeld=>?_)
        ·(first | (refine HCC.out _ ?_;(repeat' with_reducible first | assumption | exact bR | apply bD | apply bA | apply bC | apply bW | omega | simp <;> omega);done) | go_keep)
        clear hK K
        (try simp only [aP,aZ,aS,aG,aH,aI])
        refine onu 14 rfl (by kernel_rfl) fun K hK=>?_
        go_simp
        (have SN:=Lib.hid (Sit.overL (t:=75) (cs:=[.int .i64 0,.int .i64 0,.int .i64 0,.int .i64 0]) [.int .i64 bx.w,.int .i64 bx.d,.int .i64 bx.h,.int .i64 bx.gram] 0 (by first | exact SN.out | exact SN.out.rot2)))
        refine hK.out _ _ ?_ (fun hHeld=>?_)
        ·(first | (refine HCC.out _ ?_;(repeat' with_reducible first | assumption | exact bR | apply bD | apply bA | apply bC | apply bW | omega | simp <;> omega);done) | go_keep)
        clear hK K
        (try simp only [aP,aZ,aS,aG,aH,aI])
        refine lsu 15 rfl (by kernel_rfl) fun K hK=>?_
        go_simp
        (have SN:=Lib.hid (Sit.overL (t:=72) (cs:=[.int .i64 0,.int .i64 0,.int .i64 0,.int .i64 0]) [.int .i64 s.pallet,.int .i64 s.x,.int .i64 s.y,.int .i64 s.z] 0 (by first | exact SN.out | exact SN.out.rot2)))
        refine hK.out _ _ ?_
        clear hK K
        (try simp only [aP,aZ,aS,aG,aH,aI])
        go_wp2_with fail
        go_meet
        refine ⟨_,_,rfl,rfl,?_⟩
        (have HSN:=SN.out.rot2;clear HCC HR HU HBX SN hn2;(first | simp [setW,setL,World.setCell_alloc_at,World.setCell_alloc_past,World.size_alloc,hgl7,hgl8] at HSN | simp [setW,setL,World.setCell_alloc_at,World.setCell_alloc_past,World.size_alloc,hgl7] at HSN | simp [setW,setL,World.setCell_alloc_at,World.setCell_alloc_past,World.size_alloc,hgl8] at HSN | simp [setW,setL,World.setCell_alloc_at,World.setCell_alloc_past,World.size_alloc] at HSN);refine Lib.hid ?_;with_reducible exact HSN)
       exact .nil
      refine .cons rfl (by kernel_rfl) (fun K hK=>?_) ?_
      ·go_simp
       (have SN:=Lib.hid (SN.out.alloc #[.int .i64 0,.int .i64 0,.int .i64 0,.int .i64 0] 75))
       refine hK.out _ _ ?_ (fun hHeld=>?_)
       ·(first | (refine HCC.out _ ?_;(repeat' with_reducible first | assumption | exact bR | apply bD | apply bA | apply bC | apply bW | omega | simp <;> omega);done) | go_keep)
       clear hK K
       (try simp only [aP,aZ,aS,aG,aH,aI])
       refine smu [6,13] (by kernel_rfl) ?_
       refine .cons rfl (by kernel_rfl) (fun K hK=>?_) ?_
       ·go_simp
        ((go_at_call 53;refine (iBoxOf_any _ _ r c _ (HR.out.next SN.out.low) (HU.out.next (flat_mono _) SN.out.low)).mono ?_;rintro e w2 ⟨rfl,hb2⟩;rw [HBX.out];have hn2:=bstep (a:=wr) (by (repeat' with_reducible first | assumption | exact bR | apply bD | apply bA | apply bC | apply bW | omega | simp <;> omega)) hb2;have SN:=Lib.hid (SN.out.next hb2);(try (have hg7:=SN.out.on (fBox _ #[.int .i64 0,.int .i64 0,.int .i64 0,.int .i64 0] 75) (by first | exact .head _ | exact .tail _ (.head _));have hgc7:=fun j=>cell_of_row _ _ j _ _ (0,0) hg7;have hgf7:=fun j=>frozen_of_row _ _ j _ _ hg7;have hgl7:=lt_of_block hg7;(try simp only [World.size_alloc,World.size_drew] at hg7 hgc7 hgf7 hgl7)));(try (have hg8:=SN.out.on (fBox _ #[.int .i64 0,.int .i64 0,.int .i64 0,.int .i64 0] 72) (by first | exact .head _ | exact .tail _ (.head _));have hgc8:=fun j=>cell_of_row _ _ j _ _ (0,0) hg8;have hgf8:=fun j=>frozen_of_row _ _ j _ _ hg8;have hgl8:=lt_of_block hg8;(try simp only [World.size_alloc,World.size_drew] at hg8 hgc8 hgf8 hgl8)))))
        refine hK.out _ _ ?_ (fun hHeld=>?_)
        ·(first | (refine HCC.out _ ?_;(repeat' with_reducible first | assumption | exact bR | apply bD | apply bA | apply bC | apply bW | omega | simp <;> omega);done) | go_keep)
        clear hK K
        (try simp only [aP,aZ,aS,aG,aH,aI])
        refine onu 13 rfl (by kernel_rfl) fun K hK=>?_
        go_simp
        (have SN:=Lib.hid (SN.out.alloc #[.int .i64 0,.int .i64 0,.int .i64 0,.int .i64 0] 72))
        refine hK.out _ _ ?_ (fun hHeld=>?_)
        ·(first | (refine HCC.out _ ?_;(repeat' with_reducible first | assumption | exact bR | apply bD | apply bA | apply bC | apply bW | omega | simp <;> omega);done) | go_keep)
        clear hK K
        (try simp only [aP,aZ,aS,aG,aH,aI])
        refine onu 14 rfl (by kernel_rfl) fun K hK=>?_
        go_simp
        (have SN:=Lib.hid (Sit.overL (t:=75) (cs:=[.int .i64 0,.int .i64 0,.int .i64 0,.int .i64 0]) [.int .i64 bx.w,.int .i64 bx.d,.int .i64 bx.h,.int .i64 bx.gram] 0 (by first | exact SN.out | exact SN.out.rot2)))
        refine hK.out _ _ ?_ (fun hHeld=>?_)
        ·(first | (refine HCC.out _ ?_;(repeat' with_reducible first | assumption | exact bR | apply bD | apply bA | apply bC | apply bW | omega | simp <;> omega);done) | go_keep)
        clear hK K
        (try simp only [aP,aZ,aS,aG,aH,aI])
        refine lsu 15 rfl (by kernel_rfl) fun K hK=>?_
        go_simp
        (have SN:=Lib.hid (Sit.overL (t:=72) (cs:=[.int .i64 0,.int .i64 0,.int .i64 0,.int .i64 0]) [.int .i64 s.pallet,.int .i64 s.x,.int .i64 s.y,.int .i64 s.z] 0 (by first | exact SN.out | exact SN.out.rot2)))
        refine hK.out _ _ ?_
        clear hK K
        (try simp only [aP,aZ,aS,aG,aH,aI])
        go_wp2_with fail
        go_meet
        refine ⟨_,_,rfl,rfl,?_⟩
        (have HSN:=SN.out.rot2;clear HCC HR HU HBX SN hn2;(first | simp [setW,setL,World.setCell_alloc_at,World.setCell_alloc_past,World.size_alloc,hgl7,hgl8] at HSN | simp [setW,setL,World.setCell_alloc_at,World.setCell_alloc_past,World.size_alloc,hgl7] at HSN | simp [setW,setL,World.setCell_alloc_at,World.setCell_alloc_past,World.size_alloc,hgl8] at HSN | simp [setW,setL,World.setCell_alloc_at,World.setCell_alloc_past,World.size_alloc] at HSN);refine Lib.hid ?_;with_reducible exact HSN)
       refine .cons rfl (by kernel_rfl) (fun K hK=>?_) ?_
       ·go_simp
        (have SN:=Lib.hid (SN.out.alloc #[.int .i64 0,.int .i64 0,.int .i64 0,.int .i64 0] 72))
        refine hK.out _ _ ?_ (fun hHeld=>?_)
        ·(first | (refine HCC.out _ ?_;(repeat' with_reducible first | assumption | exact bR | apply bD | apply bA | apply bC | apply bW | omega | simp <;> omega);done) | go_keep)
        clear hK K
        (try simp only [aP,aZ,aS,aG,aH,aI])
        refine onu 6 rfl (by kernel_rfl) fun K hK=>?_
        go_simp
        ((go_at_call 53;refine (iBoxOf_any _ _ r c _ (HR.out.next SN.out.low) (HU.out.next (flat_mono _) SN.out.low)).mono ?_;rintro e w2 ⟨rfl,hb2⟩;rw [HBX.out];have hn2:=bstep (a:=wr) (by (repeat' with_reducible first | assumption | exact bR | apply bD | apply bA | apply bC | apply bW | omega | simp <;> omega)) hb2;have SN:=Lib.hid (SN.out.next hb2);(try (have hg7:=SN.out.on (fBox _ #[.int .i64 0,.int .i64 0,.int .i64 0,.int .i64 0] 75) (by first | exact .head _ | exact .tail _ (.head _));have hgc7:=fun j=>cell_of_row _ _ j _ _ (0,0) hg7;have hgf7:=fun j=>frozen_of_row _ _ j _ _ hg7;have hgl7:=lt_of_block hg7;(try simp only [World.size_alloc,World.size_drew] at hg7 hgc7 hgf7 hgl7)));(try (have hg8:=SN.out.on (fBox _ #[.int .i64 0,.int .i64 0,.int .i64 0,.int .i64 0] 72) (by first | exact .head _ | exact .tail _ (.head _));have hgc8:=fun j=>cell_of_row _ _ j _ _ (0,0) hg8;have hgf8:=fun j=>frozen_of_row _ _ j _ _ hg8;have hgl8:=lt_of_block hg8;(try simp only [World.size_alloc,World.size_drew] at hg8 hgc8 hgf8 hgl8)))))
        refine hK.out _ _ ?_ (fun hHeld=>?_)
        ·(first | (refine HCC.out _ ?_;(repeat' with_reducible first | assumption | exact bR | apply bD | apply bA | apply bC | apply bW | omega | simp <;> omega);done) | go_keep)
        clear hK K
        (try simp only [aP,aZ,aS,aG,aH,aI])
        refine onu 14 rfl (by kernel_rfl) fun K hK=>?_
        go_simp
        (have SN:=Lib.hid (Sit.overL (t:=75) (cs:=[.int .i64 0,.int .i64 0,.int .i64 0,.int .i64 0]) [.int .i64 bx.w,.int .i64 bx.d,.int .i64 bx.h,.int .i64 bx.gram] 0 (by first | exact SN.out | exact SN.out.rot2)))
        refine hK.out _ _ ?_ (fun hHeld=>?_)
        ·(first | (refine HCC.out _ ?_;(repeat' with_reducible first | assumption | exact bR | apply bD | apply bA | apply bC | apply bW | omega | simp <;> omega);done) | go_keep)
        clear hK K
        (try simp only [aP,aZ,aS,aG,aH,aI])
        refine lsu 15 rfl (by kernel_rfl) fun K hK=>?_
        go_simp
        (have SN:=Lib.hid (Sit.overL (t:=72) (cs:=[.int .i64 0,.int .i64 0,.int .i64 0,.int .i64 0]) [.int .i64 s.pallet,.int .i64 s.x,.int .i64 s.y,.int .i64 s.z] 0 (by first | exact SN.out | exact SN.out.rot2)))
        refine hK.out _ _ ?_
        clear hK K
        (try simp only [aP,aZ,aS,aG,aH,aI])
        go_wp2_with fail
        go_meet
        refine ⟨_,_,rfl,rfl,?_⟩
        (have HSN:=SN.out.rot2;clear HCC HR HU HBX SN hn2;(first | simp [setW,setL,World.setCell_alloc_at,World.setCell_alloc_past,World.size_alloc,hgl7,hgl8] at HSN | simp [setW,setL,World.setCell_alloc_at,World.setCell_alloc_past,World.size_alloc,hgl7] at HSN | simp [setW,setL,World.setCell_alloc_at,World.setCell_alloc_past,World.size_alloc,hgl8] at HSN | simp [setW,setL,World.setCell_alloc_at,World.setCell_alloc_past,World.size_alloc] at HSN);refine Lib.hid ?_;with_reducible exact HSN)
       exact .nil
      refine .cons rfl (by kernel_rfl) (fun K hK=>?_) ?_
      ·go_simp
       (have SN:=Lib.hid (SN.out.alloc #[.int .i64 0,.int .i64 0,.int .i64 0,.int .i64 0] 72))
       refine hK.out _ _ ?_ (fun hHeld=>?_)
       ·(first | (refine HCC.out _ ?_;(repeat' with_reducible first | assumption | exact bR | apply bD | apply bA | apply bC | apply bW | omega | simp <;> omega);done) | go_keep)
       clear hK K
       (try simp only [aP,aZ,aS,aG,aH,aI])
       refine smu [6,12] (by kernel_rfl) ?_
       refine .cons rfl (by kernel_rfl) (fun K hK=>?_) ?_
       ·go_simp
        ((go_at_call 53;refine (iBoxOf_any _ _ r c _ (HR.out.next SN.out.low) (HU.out.next (flat_mono _) SN.out.low)).mono ?_;rintro e w2 ⟨rfl,hb2⟩;rw [HBX.out];have hn2:=bstep (a:=wr) (by (repeat' with_reducible first | assumption | exact bR | apply bD | apply bA | apply bC | apply bW | omega | simp <;> omega)) hb2;have SN:=Lib.hid (SN.out.next hb2);(try (have hg7:=SN.out.on (fBox _ #[.int .i64 0,.int .i64 0,.int .i64 0,.int .i64 0] 75) (by first | exact .head _ | exact .tail _ (.head _));have hgc7:=fun j=>cell_of_row _ _ j _ _ (0,0) hg7;have hgf7:=fun j=>frozen_of_row _ _ j _ _ hg7;have hgl7:=lt_of_block hg7;(try simp only [World.size_alloc,World.size_drew] at hg7 hgc7 hgf7 hgl7)));(try (have hg8:=SN.out.on (fBox _ #[.int .i64 0,.int .i64 0,.int .i64 0,.int .i64 0] 72) (by first | exact .head _ | exact .tail _ (.head _));have hgc8:=fun j=>cell_of_row _ _ j _ _ (0,0) hg8;have hgf8:=fun j=>frozen_of_row _ _ j _ _ hg8;have hgl8:=lt_of_block hg8;(try simp only [World.size_alloc,World.size_drew] at hg8 hgc8 hgf8 hgl8)))))
        refine hK.out _ _ ?_ (fun hHeld=>?_)
        ·(first | (refine HCC.out _ ?_;(repeat' with_reducible first | assumption | exact bR | apply bD | apply bA | apply bC | apply bW | omega | simp <;> omega);done) | go_keep)
        clear hK K
        (try simp only [aP,aZ,aS,aG,aH,aI])
        refine onu 12 rfl (by kernel_rfl) fun K hK=>?_
        go_simp
        (have SN:=Lib.hid (SN.out.alloc #[.int .i64 0,.int .i64 0,.int .i64 0,.int .i64 0] 75))
        refine hK.out _ _ ?_ (fun hHeld=>?_)
        ·(first | (refine HCC.out _ ?_;(repeat' with_reducible first | assumption | exact bR | apply bD | apply bA | apply bC | apply bW | omega | simp <;> omega);done) | go_keep)
        clear hK K
        (try simp only [aP,aZ,aS,aG,aH,aI])
        refine onu 14 rfl (by kernel_rfl) fun K hK=>?_
        go_simp
        (have SN:=Lib.hid (Sit.overL (t:=75) (cs:=[.int .i64 0,.int .i64 0,.int .i64 0,.int .i64 0]) [.int .i64 bx.w,.int .i64 bx.d,.int .i64 bx.h,.int .i64 bx.gram] 0 (by first | exact SN.out | exact SN.out.rot2)))
        refine hK.out _ _ ?_ (fun hHeld=>?_)
        ·(first | (refine HCC.out _ ?_;(repeat' with_reducible first | assumption | exact bR | apply bD | apply bA | apply bC | apply bW | omega | simp <;> omega);done) | go_keep)
        clear hK K
        (try simp only [aP,aZ,aS,aG,aH,aI])
        refine lsu 15 rfl (by kernel_rfl) fun K hK=>?_
        go_simp
        (have SN:=Lib.hid (Sit.overL (t:=72) (cs:=[.int .i64 0,.int .i64 0,.int .i64 0,.int .i64 0]) [.int .i64 s.pallet,.int .i64 s.x,.int .i64 s.y,.int .i64 s.z] 0 (by first | exact SN.out | exact SN.out.rot2)))
        refine hK.out _ _ ?_
        clear hK K
        (try simp only [aP,aZ,aS,aG,aH,aI])
        go_wp2_with fail
        go_meet
        refine ⟨_,_,rfl,rfl,?_⟩
        (have HSN:=SN.out.rot2;clear HCC HR HU HBX SN hn2;(first | simp [setW,setL,World.setCell_alloc_at,World.setCell_alloc_past,World.size_alloc,hgl7,hgl8] at HSN | simp [setW,setL,World.setCell_alloc_at,World.setCell_alloc_past,World.size_alloc,hgl7] at HSN | simp [setW,setL,World.setCell_alloc_at,World.setCell_alloc_past,World.size_alloc,hgl8] at HSN | simp [setW,setL,World.setCell_alloc_at,World.setCell_alloc_past,World.size_alloc] at HSN);refine Lib.hid ?_;with_reducible exact HSN)
       refine .cons rfl (by kernel_rfl) (fun K hK=>?_) ?_
       ·go_simp
        (have SN:=Lib.hid (SN.out.alloc #[.int .i64 0,.int .i64 0,.int .i64 0,.int .i64 0] 75))
        refine hK.out _ _ ?_ (fun hHeld=>?_)
        ·(first | (refine HCC.out _ ?_;(repeat' with_reducible first | assumption | exact bR | apply bD | apply bA | apply bC | apply bW | omega | simp <;> omega);done) | go_keep)
        clear hK K
        (try simp only [aP,aZ,aS,aG,aH,aI])
        refine onu 6 rfl (by kernel_rfl) fun K hK=>?_
        go_simp
        ((go_at_call 53;refine (iBoxOf_any _ _ r c _ (HR.out.next SN.out.low) (HU.out.next (flat_mono _) SN.out.low)).mono ?_;rintro e w2 ⟨rfl,hb2⟩;rw [HBX.out];have hn2:=bstep (a:=wr) (by (repeat' with_reducible first | assumption | exact bR | apply bD | apply bA | apply bC | apply bW | omega | simp <;> omega)) hb2;have SN:=Lib.hid (SN.out.next hb2);(try (have hg7:=SN.out.on (fBox _ #[.int .i64 0,.int .i64 0,.int .i64 0,.int .i64 0] 75) (by first | exact .head _ | exact .tail _ (.head _));have hgc7:=fun j=>cell_of_row _ _ j _ _ (0,0) hg7;have hgf7:=fun j=>frozen_of_row _ _ j _ _ hg7;have hgl7:=lt_of_block hg7;(try simp only [World.size_alloc,World.size_drew] at hg7 hgc7 hgf7 hgl7)));(try (have hg8:=SN.out.on (fBox _ #[.int .i64 0,.int .i64 0,.int .i64 0,.int .i64 0] 72) (by first | exact .head _ | exact .tail _ (.head _));have hgc8:=fun j=>cell_of_row _ _ j _ _ (0,0) hg8;have hgf8:=fun j=>frozen_of_row _ _ j _ _ hg8;have hgl8:=lt_of_block hg8;(try simp only [World.size_alloc,World.size_drew] at hg8 hgc8 hgf8 hgl8)))))
        refine hK.out _ _ ?_ (fun hHeld=>?_)
        ·(first | (refine HCC.out _ ?_;(repeat' with_reducible first | assumption | exact bR | apply bD | apply bA | apply bC | apply bW | omega | simp <;> omega);done) | go_keep)
        clear hK K
        (try simp only [aP,aZ,aS,aG,aH,aI])
        refine onu 14 rfl (by kernel_rfl) fun K hK=>?_
        go_simp
        (have SN:=Lib.hid (Sit.overL (t:=75) (cs:=[.int .i64 0,.int .i64 0,.int .i64 0,.int .i64 0]) [.int .i64 bx.w,.int .i64 bx.d,.int .i64 bx.h,.int .i64 bx.gram] 0 (by first | exact SN.out | exact SN.out.rot2)))
        refine hK.out _ _ ?_ (fun hHeld=>?_)
        ·(first | (refine HCC.out _ ?_;(repeat' with_reducible first | assumption | exact bR | apply bD | apply bA | apply bC | apply bW | omega | simp <;> omega);done) | go_keep)
        clear hK K
        (try simp only [aP,aZ,aS,aG,aH,aI])
        refine lsu 15 rfl (by kernel_rfl) fun K hK=>?_
        go_simp
        (have SN:=Lib.hid (Sit.overL (t:=72) (cs:=[.int .i64 0,.int .i64 0,.int .i64 0,.int .i64 0]) [.int .i64 s.pallet,.int .i64 s.x,.int .i64 s.y,.int .i64 s.z] 0 (by first | exact SN.out | exact SN.out.rot2)))
        refine hK.out _ _ ?_
        clear hK K
        (try simp only [aP,aZ,aS,aG,aH,aI])
        go_wp2_with fail
        go_meet
        refine ⟨_,_,rfl,rfl,?_⟩
        (have HSN:=SN.out.rot2;clear HCC HR HU HBX SN hn2;(first | simp [setW,setL,World.setCell_alloc_at,World.setCell_alloc_past,World.size_alloc,hgl7,hgl8] at HSN | simp [setW,setL,World.setCell_alloc_at,World.setCell_alloc_past,World.size_alloc,hgl7] at HSN | simp [setW,setL,World.setCell_alloc_at,World.setCell_alloc_past,World.size_alloc,hgl8] at HSN | simp [setW,setL,World.setCell_alloc_at,World.setCell_alloc_past,World.size_alloc] at HSN);refine Lib.hid ?_;with_reducible exact HSN)
       exact .nil
      exact .nil
     case rest =>
     obtain ⟨g7,g8,rfl,rfl,SN2⟩:=hcut
     subst hL0
     have SN:=SN2
     clear SN2 HCC
     obtain ⟨hW,hD⟩:=HWD.out
     obtain ⟨a1,a2,a3,a4,a5,a6,a7,a8,a9⟩:=HIN.out
     obtain ⟨cg,hcg⟩:∃ c:Nat→Nat→Int,(fun q p:Nat=>(LH.take j).foldl (pixStep r x q p) 46)=c:=⟨_,rfl⟩
     have HCG:=Lib.hid hcg
     rw [hcg] at HG
     obtain ⟨X0,hX0⟩:∃ n:Nat,s.x=n:=⟨s.x.toNat,by omega⟩
     obtain ⟨Y0,hY0⟩:∃ n:Nat,s.y=n:=⟨s.y.toNat,by omega⟩
     obtain ⟨BW,hBW⟩:∃ n:Nat,bx.w=n:=⟨bx.w.toNat,by omega⟩
     obtain ⟨BD,hBD⟩:∃ n:Nat,bx.d=n:=⟨bx.d.toNat,by omega⟩
     have HSG:=Lib.hid (sign_mod (i:=(m:Int)) (by omega))
     have hwx:IntKind.i64.wrap (s.x + bx.w)=s.x + bx.w:=by rw [wrapE];unfold wrap64;omega
     have hwy:IntKind.i64.wrap (s.y + bx.d)=s.y + bx.d:=by rw [wrapE];unfold wrap64;omega
     have hxw:X0 + BW≤Wn:=by omega
     have hyd:Y0 + BD≤y:=by omega
     have HSTP:=Lib.hid (show grid (inkC s bx (97 + (m:Int) % 26) cg (Y0 + BD:Nat) X0) Wn y=grid (fun q p=>(LH.take (j + 1)).foldl (pixStep r x q p) 46) Wn y from grid_congr fun q p hq hp=>by
      rw [HST.out,show (LH.take j).foldl (pixStep r x q p) 46=cg q p by rw [← HCG.out]]
      unfold inkC pixStep inXY
      rw [HSA.out,HBA.out,HSG.out]
      simp only [Bool.and_eq_true,decide_eq_true_eq]
      split
      ·rename_i h1;rw [if_pos (by omega)]
      ·rename_i h1;rw [if_neg (by omega)])
     have k8:=SN.out.box (.tail _ (.head _))
     clear hcg HST
     go_wp2
     clear k8
     go_loopw [17] (fun i wr=>∃ (yy:Nat) (zs:List (List Int×Nat)),Y0≤yy∧yy≤Y0 + BD∧i=.int .i64 yy∧Hid (zs.map (·.1)=grid (inkC s bx (97 + (m:Int) % 26) cg yy X0) Wn y)∧Hid (Sit w wr (fBox g7 #[.int .i64 bx.w,.int .i64 bx.d,.int .i64 bx.h,.int .i64 bx.gram] 75::fBox g8 #[.int .i64 s.pallet,.int .i64 s.x,.int .i64 s.y,.int .i64 s.z] 72::fOF hdB 63 1 w.heap.size (.slice (some ⟨gr,0,none⟩) y c9) zs f9::fOF cI 3 1 w.heap.size (.slice (some ⟨gd,0,none⟩) LH.length d) (LH) fk::fBox (w.heap.size + 1 + 1) #[.int .i64 r.pallet.w,.int .i64 r.pallet.d,.int .i64 r.pallet.h,.int .i64 r.pallet.gram] 36::fBox (w.heap.size + 1) #[.slice (some ⟨b,off,none⟩) x.cartons.length ca,.slice (some ⟨b2,off2,none⟩) x.spots.length cb] 46::fBox w.heap.size (cR r A1 c1 A2 c2 A3 c3) 41::zs.map (fRow w.heap.size)))) (fun i _=>Y0 + BD - (intOf i).toNat)
     case atStart=>exact ⟨Y0,zs,Nat.le_refl _,by omega,(by first | rfl | rw [hY0]),Lib.hid (by rw [HG.out];exact grid_congr fun q p _ _=>by unfold inkC;rw [if_neg (by omega)]),SN⟩
     case round =>
      clear SN HG
      obtain ⟨yy,zs,hyy0,hyy1,rfl,HG,SN⟩:=hrel
      have k7:=SN.out.box (.head _)
      have k8:=SN.out.box (.tail _ (.head _))
      by_cases hlty:yy < Y0 + BD
      ·have hlty1:(yy:Int) < s.y + bx.d:=by omega
       go_wp2
       clear k7 k8
       go_loopw [18] (fun i wr=>∃ (aa:Nat) (zs:List (List Int×Nat)),X0≤aa∧aa≤X0 + BW∧i=.int .i64 aa∧Hid (zs.map (·.1)=grid (inkC s bx (97 + (m:Int) % 26) cg yy aa) Wn y)∧Hid (Sit w wr (fBox g7 #[.int .i64 bx.w,.int .i64 bx.d,.int .i64 bx.h,.int .i64 bx.gram] 75::fBox g8 #[.int .i64 s.pallet,.int .i64 s.x,.int .i64 s.y,.int .i64 s.z] 72::fOF hdB 63 1 w.heap.size (.slice (some ⟨gr,0,none⟩) y c9) zs f9::fOF cI 3 1 w.heap.size (.slice (some ⟨gd,0,none⟩) LH.length d) (LH) fk::fBox (w.heap.size + 1 + 1) #[.int .i64 r.pallet.w,.int .i64 r.pallet.d,.int .i64 r.pallet.h,.int .i64 r.pallet.gram] 36::fBox (w.heap.size + 1) #[.slice (some ⟨b,off,none⟩) x.cartons.length ca,.slice (some ⟨b2,off2,none⟩) x.spots.length cb] 46::fBox w.heap.size (cR r A1 c1 A2 c2 A3 c3) 41::zs.map (fRow w.heap.size)))) (fun i _=>X0 + BW - (intOf i).toNat)
       case atStart=>exact ⟨X0,zs,Nat.le_refl _,by omega,(by first | rfl | rw [hX0]),HG,SN⟩
       case round =>
        clear SN HG
        obtain ⟨aa,zs,haa0,haa1,rfl,HG,SN⟩:=hrel
        have k7:=SN.out.box (.head _)
        have k8:=SN.out.box (.tail _ (.head _))
        by_cases hlta:aa < X0 + BW
        ·have hlta1:(aa:Int) < s.x + bx.w:=by omega
         obtain ⟨zr,hzr,hz1⟩:=grid_at HG.out (show yy < y by omega)
         have hzl:zr.1.length=Wn:=by rw [hz1];simp
         have hkr:=(SN.out.list (.tail _ (.tail _ (.head _)))).cells (fun _=>rfl) hzr 0 _ rfl
         rw [Nat.mul_one,Nat.add_zero,hzl] at hkr
         have HO:=(SN.out.list (f:=cU) (e:=5) (K:=1) (base:=w.heap.size) (v:=.slice (some ⟨zr.2,0,none⟩) zr.1.length zr.1.length) (xs:=zr.1) (fp:=[zr.2]) (by repeat first | exact List.mem_map.2 ⟨zr,List.mem_of_getElem? hzr,rfl⟩ | refine .tail _ ?_))
         obtain ⟨old,hold⟩:∃ u,zr.1[aa]? = some u:=⟨_,List.getElem?_eq_getElem (by omega)⟩
         have hko:=HO.cells (fun _=>rfl) hold 0 _ rfl
         rw [Nat.mul_one,Nat.add_zero] at hko
         have hfo:=fun o=>HO.free o
         have SF:=Lib.hid (Sit.ink [fBox g7 #[.int .i64 bx.w,.int .i64 bx.d,.int .i64 bx.h,.int .i64 bx.gram] 75,fBox g8 #[.int .i64 s.pallet,.int .i64 s.x,.int .i64 s.y,.int .i64 s.z] 72] [fOF cI 3 1 w.heap.size (.slice (some ⟨gd,0,none⟩) LH.length d) (LH) fk,fBox (w.heap.size + 1 + 1) #[.int .i64 r.pallet.w,.int .i64 r.pallet.d,.int .i64 r.pallet.h,.int .i64 r.pallet.gram] 36,fBox (w.heap.size + 1) #[.slice (some ⟨b,off,none⟩) x.cartons.length ca,.slice (some ⟨b2,off2,none⟩) x.spots.length cb] 46,fBox w.heap.size (cR r A1 c1 A2 c2 A3 c3) 41] SN.out hzr (show aa < zr.1.length by omega) (97 + (m:Int) % 26))
         have HG2:=Lib.hid (grid_set HG.out hzr (show aa < Wn by omega) (97 + (m:Int) % 26))
         have HGC:=Lib.hid (show ∀ q p:Nat,(if p=yy∧q=aa then 97 + (m:Int) % 26 else inkC s bx (97 + (m:Int) % 26) cg yy aa q p)=inkC s bx (97 + (m:Int) % 26) cg yy ((aa + 1:Nat):Int) q p by
          intro q p
          unfold inkC
          split <;> split <;> first | rfl | (exfalso;omega) | (split <;> first | rfl | (exfalso;omega)))
         have hyl:(yy:Int) < (y:Int):=by omega
         have hal:(aa:Int) < (Wn:Int):=by omega
         clear HO hold hz1 hzr
         go_wp2
         go_roundw
         case rel=>exact ⟨aa + 1,_,by omega,hlta,by go_num,Lib.hid (by rw [HG2.out];exact grid_congr fun q p _ _=>HGC.out q p),SF⟩
         case measure=>simp [intOf] <;> omega
        ·obtain rfl:aa=X0 + BW:=by omega
         have HGY:=Lib.hid (show ∀ q p:Nat,inkC s bx (97 + (m:Int) % 26) cg yy ((X0 + BW:Nat):Int) q p=inkC s bx (97 + (m:Int) % 26) cg ((yy + 1:Nat):Int) X0 q p by
          intro q p
          unfold inkC
          by_cases hc:(s.x≤q∧q < s.x + bx.w)∧(s.y≤p∧p < (yy:Int)) ∨ (s.x≤q∧q < ((X0 + BW:Nat):Int))∧(p:Int)=yy
          ·rw [if_pos hc,if_pos (by omega)]
          ·rw [if_neg hc,if_neg (by omega)])
         go_wp2
         go_roundw
         case rel=>exact ⟨yy + 1,zs,by omega,hlty,by go_num,Lib.hid (by rw [HG.out];exact grid_congr fun q p _ _=>HGY.out q p),SN⟩
         case measure=>simp [intOf] <;> omega
      ·obtain rfl:yy=Y0 + BD:=by omega
       have hge : ¬ ((Y0 + BD:Nat):Int) < s.y + bx.d:=by omega
       go_wp2
       go_roundw
       case rel=>exact ⟨j + 1,zs,hltj,by go_num,Lib.hid (by rw [HG.out];exact HSTP.out),Lib.hid SN.out.drop.drop⟩
       case measure=>simp [intOf] <;> omega
    ·obtain rfl:j=LH.length:=by omega
     have hzl:zs.length=y:=grid_len HG.out
     obtain ⟨hW,hD⟩:=HWD.out
     have HRP:=Lib.hid (show zs.map (·.1)=(List.range y).map (fun p=>rowP r x k z p) by
      rw [HG.out,List.take_length]
      unfold grid rowP
      rw [show r.pallet.w.toNat=Wn by omega]
      refine List.map_congr_left fun p hp=>List.map_congr_left fun q hq=>?_
      have h1:=List.mem_range.1 hp
      have h2:=List.mem_range.1 hq
      have:=pix_eq (k:=k) (px:=q) (py:=p) HQ.out ⟨by omega,by omega⟩ ⟨by omega,by omega⟩ HZ.out
      unfold pixI at this
      rw [HLH.out] at this
      exact this)
     clear hW hD
     have SN:=Lib.hid ((SN.out.alloc #[] 9).boxNil cS 1)
     go_wp2
     go_loopw [19,135] (fun vv i wr=>∃ (n:Nat) (fo:List Nat),n≤y∧i=.int .i64 n∧Hid (Sit w wr (fOF cS 9 1 w.heap.size vv ((List.range n).map fun p=>byt (rowP r x k z p)) fo::fOF hdB 63 1 w.heap.size (.slice (some ⟨gr,0,none⟩) y c9) zs f9::fOF cI 3 1 w.heap.size (.slice D LH.length d) (LH) fk::fBox (w.heap.size + 1 + 1) #[.int .i64 r.pallet.w,.int .i64 r.pallet.d,.int .i64 r.pallet.h,.int .i64 r.pallet.gram] 36::fBox (w.heap.size + 1) #[.slice PA x.cartons.length ca,.slice PB x.spots.length cb] 46::fBox w.heap.size (cR r A1 c1 A2 c2 A3 c3) 41::zs.map (fRow w.heap.size)))) (fun _ i _=>y - (intOf i).toNat)
     case atStart=>exact ⟨0,_,Nat.zero_le _,rfl,SN⟩
     case round =>
      clear SN
      obtain ⟨n,fo,hn,rfl,SN⟩:=hrel
      obtain ⟨OL,hOL⟩:∃ O,((List.range n).map fun p=>byt (rowP r x k z p))=O:=⟨_,rfl⟩
      have hol:OL.length=n:=by rw [← hOL];simp
      have HTK:=Lib.hid (show ((List.range (n + 1)).map fun p=>byt (rowP r x k z p))=OL ++ [byt (rowP r x k z n)] by rw [range_map_step,hOL])
      rw [hOL] at SN
      obtain ⟨Ao,co,rfl,_⟩:=(SN.out.list (.head _)).form
      by_cases hltn:n < y
      ·obtain ⟨zr,hzr⟩:∃ zr,zs[n]? = some zr:=⟨_,List.getElem?_eq_getElem (by omega)⟩
       have hz1:zr.1=rowP r x k z n:=by
        have h:=congrArg (fun l=>l[n]?) HRP.out
        simp only [List.getElem?_map,hzr,List.getElem?_range hltn,Option.map_some] at h
        exact Option.some.inj h
       have hkr:=(SN.out.list (.tail _ (.head _))).cells (fun _=>rfl) hzr 0 _ rfl
       rw [Nat.mul_one,Nat.add_zero] at hkr
       have hbk:=of_back (P:=Tryz.prog) (SN.out.list (f:=cU) (e:=5) (K:=1) (base:=w.heap.size) (v:=.slice (some ⟨zr.2,0,none⟩) zr.1.length zr.1.length) (xs:=zr.1) (fp:=[zr.2]) (by repeat first | exact List.mem_map.2 ⟨zr,List.mem_of_getElem? hzr,rfl⟩ | refine .tail _ ?_)) (fun u hu=>by
        rw [hz1] at hu
        obtain ⟨q,_,rfl⟩:=List.mem_map.1 hu
        exact pixS_in r x k z q n (by omega)) 63 9 Tryz.underlying63 Tryz.underlying5 Tryz.underlying9
       rw [show byt zr.1=byt (rowP r x k z n) by rw [hz1]] at hbk
       have HBL:=Lib.hid hz1
       have hyl:(n:Int) < (y:Int):=by omega
       clear hz1 hOL
       go_wp2_with (at_builtin;refine papp_String _ _ rfl rfl (byt (rowP r x k z n)) rfl rfl (alloc_at (by first | rfl | (simp;done) | (simp;omega))) rfl ((SN.out.list (.head _)).next (by repeat' with_reducible first | assumption | exact bR | apply bD | apply bA | apply bC | apply bN | simp <;> omega)) (by first | omega | (simp;omega)) (by have:=SN.out.low.size;first | omega | (simp;done) | (simp;omega) | (simp at this ⊢;omega)) ?_;intro v7 w7 ha;obtain ⟨g7,S7⟩:=(SN.out.next (by repeat' with_reducible first | assumption | exact bR | apply bD | apply bA | apply bC | apply bN | simp <;> omega)).app ha;have S8:=Lib.hid S7;clear S7 ha)
       go_roundw
       case rel=>exact ⟨n + 1,_,hltn,by go_num,by rw [HTK.out];exact S8⟩
       case measure=>simp [intOf] <;> omega
      ·obtain rfl:n=y:=by omega
       go_wp2
       go_ret
       rw [HM.out,hOL]
       exact SN.out.mof
end Go.Proofs.YtioijfplbgpjpaaGreat
namespace Go.Proofs.YtioijfplbgpjpaaGreat
set_option linter.unusedVariables false
set_option linter.unusedSimpArgs false
set_option maxRecDepth 100000
open Go.RowKit
def dgt (n:Int):ByteArray:=⟨(Lib.itoa n).toArray⟩
def DigInv (u v:Nat) (out:List UInt8):Prop:=if v=0 then out=Lib.decDigits u else Lib.decDigits u=Lib.decDigits v ++ out
theorem DigInv.start {u:Nat} (h:u ≠ 0):DigInv u u []:=by unfold DigInv;rw [if_neg h];simp
theorem DigInv.step {u v:Nat} {out:List UInt8} (h:DigInv u v out) (hv:v ≠ 0):DigInv u (v / 10) (UInt8.ofNat (48 + v % 10)::out):=by
 unfold DigInv at h ⊢
 rw [if_neg hv] at h
 by_cases h2:v < 10
 ·rw [if_pos (by omega),h,Lib.decDigits,dif_pos h2,Nat.mod_eq_of_lt h2];rfl
 ·rw [if_neg (by omega),h,Lib.decDigits,dif_neg h2];simp
theorem DigInv.done {u:Nat} {out:List UInt8} (h:DigInv u 0 out):out=Lib.decDigits u:=by unfold DigInv at h;rwa [if_pos rfl] at h
theorem bytes_of_row {P:Program} (w:World) (src e dst:TypeId) (hs:P.underlying src=some (.slice e)) (he:P.underlying e=some (.int .u8)) (hd:P.underlying dst=some .string) (x:Int) (c:UInt8) (hx:UInt8.ofNat x.toNat=c) :
  (convert src dst (.slice (some ⟨w.heap.size,0,none⟩) 1 1)).run P (w.alloc (.cells #[.int .u8 x] e))=.ok (.string ⟨#[c]⟩) (w.alloc (.cells #[.int .u8 x] e)):=by
 rw [run_convert_bytes_arg (P:=P) (w.alloc (.cells #[.int .u8 x] e)) src e hs he w.heap.size 0 1 1 [x] rfl (fun i hi=>?_) dst hd]
 ·rw [← hx];rfl
 ·obtain rfl:i=0:=by omega
  rw [cell_of_row _ _ _ _ _ (0,0) (heap_alloc_new w _)]
  rfl
theorem str_cons (c:UInt8) (out:List UInt8):(⟨#[c]⟩:ByteArray) ++ ⟨out.toArray⟩=⟨(c::out).toArray⟩:=by
 apply bytes_ext'
 simp [ByteArray.data_append]
theorem dgt_pos {u:Nat} {out:List UInt8} (h:DigInv u 0 out):(⟨out.toArray⟩:ByteArray)=dgt u:=by rw [h.done];unfold dgt Lib.itoa;rw [if_neg (by omega)];rfl
theorem DigInv.len {u v:Nat} {out:List UInt8} (h:DigInv u v out) (hu:u≤9223372036854775808):out.length≤21:=by
 have h1:(Lib.decDigits u).length≤21:=by
  rcases Nat.eq_zero_or_pos u with h0 | h0
  ·subst h0;decide +kernel
  ·have h2:=Lib.itoa_length_le (-(u:Int)) (by omega) (by omega)
   rw [Lib.itoa_neg u h0] at h2
   simp at h2
   omega
 unfold DigInv at h
 split at h
 ·rw [h];exact h1
 ·rw [h,List.length_append] at h1;omega
end Go.Proofs.YtioijfplbgpjpaaGreat
namespace Go.Proofs.YtioijfplbgpjpaaGreat
set_option linter.unusedVariables false
set_option linter.unusedSimpArgs false
set_option maxRecDepth 100000
open Go.RowKit Go.WideShapes Go.ChangeShapes Go.ChangeAt Go.Deep
def mtx (k:Int):ByteArray:=⟨#[109]⟩ ++ dgt k
set_option maxRecDepth 100000 in
set_option maxHeartbeats 400000 in
theorem markText_any (k:Int) (w:World) (h0:0≤k) (h1:k≤9223372036854775807):Calls Tryz.prog 119 #[.int .i64 k] w fun e w'=>e=.returned (.string (mtx k))∧Below w.heap.size w w':=by
 by_cases hz:k=0
 ·subst hz
  go_enter Tryz.func119,Tryz.ntmps119
  go_wp2
  go_ret
  exact ⟨ret_str (by decide +kernel),Below.refl _ _⟩
 ·obtain ⟨u,rfl⟩:∃ u:Nat,k=u:=⟨k.toNat,by omega⟩
  have hu0:u ≠ 0:=by omega
  have hup : ¬ ((u:Int)≤0):=by omega
  have hu63:(u:Int)≤9223372036854775807:=h1
  clear h0 h1 hz
  go_enter Tryz.func119,Tryz.ntmps119
  go_wp2
  go_loopw [0,3] (fun nv ov wr=>∃ v:Nat,∃ out:List UInt8,v≤u∧nv=.int .i64 v∧ov=.string ⟨out.toArray⟩∧DigInv u v out∧Below w.heap.size w wr) (fun nv _ _=>(intOf nv).toNat)
  case atStart=>exact ⟨u,[],Nat.le_refl _,rfl,rfl,DigInv.start hu0,Below.refl _ _⟩
  case round =>
   obtain ⟨v,out,hv,rfl,rfl,hi,hbl⟩:=hrel
   have HI:=Lib.hid hi
   have hol:=hi.len (by omega)
   clear hi
   by_cases hv0:v=0
   ·subst hv0
    go_wp2
    go_ret
    exact ⟨ret_str (by unfold mtx;rw [← dgt_pos HI.out]),hbl⟩
   ·have hvp:(0:Int) < (v:Int):=by omega
    have hcv:=bytes_of_row (P:=Tryz.prog) wr 63 5 9 Tryz.underlying63 Tryz.underlying5 Tryz.underlying9 (48 + (v:Int) % 10) (UInt8.ofNat (48 + v % 10)) (by congr 1)
    obtain ⟨c,hc⟩:∃ c,UInt8.ofNat (48 + v % 10)=c:=⟨_,rfl⟩
    rw [hc] at hcv
    have HC:=Lib.hid hc
    clear hc
    go_wp2
    go_roundw
    case rel=>exact ⟨v / 10,c::out,by omega,by go_num,by rw [str_cons],HC.out ▸ HI.out.step hv0,hbl.alloc hbl.size _⟩
    case measure=>simp [intOf];omega
set_option maxHeartbeats 400000 in
theorem markStringS_any (v:Value) (xs:List ByteArray) (k:Int) (base:Nat) (w:World) (h:w.ownsRow base 9 1 v xs.length (xs.flatMap cS)) (hb:xs.length≤16777216) (h0:0≤k) (h1:k≤4294967296) :
  Calls Tryz.prog 41 #[v,.int .i64 k] w fun e w'=>e=.returned (.int .i64 (k + ((xs.length * 1:Nat):Int)))∧w'.ownsRow base 9 1 v xs.length ((mkS 1 mtx k xs.length).flatMap cS)∧Tch v.ownBlock.toList w w':=by
 obtain ⟨A,c,rfl⟩:=own_form h
 have H:=Lib.hid h
 clear h
 go_enter Tryz.func41,Tryz.ntmps41
 go_wp2
 go_loopw [1,5] (fun kk i wr=>∃ j:Nat,∃ m:Int,j≤xs.length∧0≤m∧m≤9223372036854775000∧kk=.int .i64 m∧i=.int .i64 j∧m=k + ((j * 1:Nat):Int)∧wr.ownsRow base 9 1 (.slice A xs.length c) xs.length ((mkS 1 mtx k j ++ xs.drop j).flatMap cS)∧Tch (Value.slice A xs.length c).ownBlock.toList w wr) (fun _ i _=>xs.length - (intOf i).toNat)
 case atStart=>exact ⟨0,k,Nat.zero_le _,h0,by omega,rfl,rfl,by simp,by simpa [mkS] using H.out,Tch.refl _ _⟩
 case round =>
  obtain ⟨j,m,hj,hm0,hm1,rfl,rfl,hm,hown,ht⟩:=hrel
  have HM:=Lib.hid hm
  by_cases hlt:j < xs.length
  ·have hm2:m≤9223372036854774000:=by omega
   clear hm
   obtain ⟨g,rfl⟩:∃ g,A=some ⟨g,0,none⟩:=by
    rcases hown.2 with ⟨hv,_⟩ | ⟨g,cap,cur,hv,_⟩
    ·have hv':=congrArg (fun v=>match v with | .slice _ m _=>m | _=>0) hv;simp at hv';omega
    ·cases hv;exact ⟨g,rfl⟩
   have HO:=Lib.hid hown
   have HT:=Lib.hid ht
   clear hown ht
   go_wp2_with fail
   refine (markText_any m _ hm0 (by omega)).mono ?_
   rintro e w1 ⟨rfl,hb1⟩
   have hown:=own_below HO.out hb1 (fun b hb=>(HO.out.lt b hb).2)
   have ht:=HT.out.trans (Tch.of hb1 _)
   have hf:=hown.frozenAt
   obtain ⟨o0,ho0⟩:=own_room0 hown j hlt (by omega)
   simp only [Nat.mul_one] at ho0
   have hst:=storedL [.string (mtx m)] _ w1 (j * 1) hown
   have hmk:mkS 1 mtx k (j + 1)=mkS 1 mtx k j ++ [mtx m]:=by rw [mkS_snoc,HM.out]
   have hst2:=mix_store (f:=cS) (K:=1) (fun _=>rfl) (mkS_length 1 mtx j k) hlt (mtx m)
   rw [show cS (mtx m)=[.string (mtx m)] from rfl,← hmk] at hst2
   rw [hst2] at hst
   clear hmk hst2
   have htc:=Tch.setW (show g∈(Value.slice (some ⟨g,0,none⟩) xs.length c).ownBlock.toList by simp [Value.ownBlock]) [.string (mtx m)] w1 (j * 1) ht
   simp only [Nat.mul_one,setW] at hst htc
   have HST:=Lib.hid hst
   have HTC:=Lib.hid htc
   clear hst htc hown ht hb1
   go_wp2
   go_roundw
   case rel=>exact ⟨j + 1,m + 1,hlt,by omega,by omega,rfl,by go_num,by have:=HM.out;omega,HST.out,HTC.out⟩
   case measure=>simp [intOf];omega
  ·obtain rfl:j=xs.length:=by omega
   rw [List.drop_length,List.append_nil] at hown
   clear hm
   go_wp2
   go_ret
   exact ⟨ret_int HM.out,hown,ht⟩
theorem markStr_of (v:Value) (xs:List ByteArray) (fp:List Nat) (k:Int) (base:Nat) (w:World) (h:OF cS 9 1 w base v xs fp) (hb:xs.length≤16777216) (h0:0≤k) (h1:k≤4294967296) :
  Calls Tryz.prog 41 #[v,.int .i64 k] w fun e w'=>e=.returned (.int .i64 (k + (xs.length:Nat)))∧OF cS 9 1 w' base v (mkS 1 mtx k xs.length) fp∧Tch fp w w':=by
 obtain ⟨h,rfl⟩:=h
 refine (markStringS_any v xs k base w h hb h0 h1).mono ?_
 rintro e w' ⟨rfl,ho,ht⟩
 exact ⟨ret_int (by omega),⟨by rw [mkS_length];exact ho,rfl⟩,ht⟩
set_option maxRecDepth 100000 in
set_option maxHeartbeats 2000000 in
theorem heldStringS_any (v:Value) (n:Nat) (k:Int) (w:World) (h:RL 16777216 1 (flat cS) w w.heap.size v (mkS 1 mtx k n)) (h0:0≤k) (h1:k≤4294967296) :
  Calls Tryz.prog 42 #[v,.int .i64 k] w fun e w'=>e=.returned (.int .i64 (k + (n:Int)))∧Below w.heap.size w w':=by
 have h':=h
 obtain ⟨A,c,rfl,hbd,_⟩:=h
 rw [mkS_length] at hbd
 have H:=Lib.hid h'
 clear h'
 have hl:(mkS 1 mtx k n).length=n:=mkS_length _ _ _ _
 rw [hl] at H ⊢
 have HL:=Lib.hid hl
 clear hl
 have SN:=Lib.hid (Sit.here w)
 go_enter Tryz.func42,Tryz.ntmps42
 go_wp2
 go_loopw [1,5] (fun kk i wr=>∃ j:Nat,∃ m:Int,j≤n∧0≤m∧m≤9223372036854775000∧kk=.int .i64 m∧i=.int .i64 j∧m=k + (j:Int)∧Hid (Sit w wr [])) (fun _ i _=>n - (intOf i).toNat)
 case atStart=>exact ⟨0,k,Nat.zero_le _,h0,by omega,rfl,rfl,by simp,SN⟩
 case round =>
  clear SN
  obtain ⟨j,m,hj,hm0,hm1,rfl,rfl,hm,SN⟩:=hrel
  have HM:=Lib.hid hm
  by_cases hlt:j < n
  ·have hm2:m≤9223372036854774000:=by omega
   obtain ⟨b,off,x,_,rfl,hb,hx,_,hfx,hc⟩:=H.out.at_ j (by rw [HL.out];exact hlt)
   rw [mkS_get _ _ _ _ _ hlt,Nat.mul_one,← hm] at hx
   cases hx
   cases hfx
   have hc0:=hc 0 _ rfl
   simp only [Nat.add_zero,Nat.mul_one] at hc0
   have HCC:=Lib.hid (show ∀ X:World,Below wr.heap.size wr X→X.cell? ⟨b,off + j,none⟩=some (.string (mtx m)) from fun X hX=>((SN.out.next hX).low.cell (p:=⟨b,off + j,none⟩) hb).trans hc0)
   clear hc hm hc0
   go_upto_region 4 with fail
   refine regu (S:=(fun W'=>W'.cell? ⟨b,off + j,none⟩=some (.string (mtx m)))) (by kernel_rfl) (fun _ _ _ _ _=>id) ?_ fun hHeld=>?_
   ·(first | (refine HCC.out _ ?_;(repeat' with_reducible first | assumption | exact bR | apply bD | apply bA | apply bC | apply bW | omega | simp <;> omega);done) | go_keep)
   refine tku (b:=?_) [0,1,2,3,4] (by kernel_rfl) hHeld ?_ ?_
   rotate_left
   ·repeat first
    |exact .nil
    |refine .yes (v:=?_) rfl (by rfl) ?_ ?_
     rotate_left
     ·intro w9 hSw;(try dsimp only at hSw);go_simp;(try with_reducible rfl)
     (try simp only [aP,aZ,aS,aG,aH,aI])
   refine onu 5 rfl (by kernel_rfl) fun K hK=>?_
   go_simp
   ((go_at_call 119;refine (markText_any m _ hm0 (by omega)).mono ?_;rintro e w5 ⟨rfl,hb5⟩;have hn5:=bstep (a:=wr) (by (repeat' with_reducible first | assumption | exact bR | apply bD | apply bA | apply bC | apply bW | omega | simp <;> omega)) hb5))
   refine hK.out _ _ ?_ (fun hHeld=>?_)
   ·(first | (refine HCC.out _ ?_;(repeat' with_reducible first | assumption | exact bR | apply bD | apply bA | apply bC | apply bW | omega | simp <;> omega);done) | go_keep)
   clear hK K
   (try simp only [aP,aZ,aS,aG,aH,aI])
   refine lsu 6 rfl (by kernel_rfl) fun K hK=>?_
   go_simp
   refine hK.out _ _ ?_
   clear hK K
   (try simp only [aP,aZ,aS,aG,aH,aI])
   skip
   have SN:=Lib.hid (SN.out.next hn5)
   clear hn5 hb5 HCC
   go_wp2
   go_roundw
   case rel=>exact ⟨j + 1,m + 1,hlt,by omega,by omega,rfl,by go_num,by have:=HM.out;omega,SN⟩
   case measure=>simp [intOf] <;> omega
  ·obtain rfl:j=n:=by omega
   clear hm
   go_wp2
   go_ret
   exact ⟨ret_int HM.out,SN.out.low⟩
end Go.Proofs.YtioijfplbgpjpaaGreat
namespace Go.Proofs.YtioijfplbgpjpaaGreat
set_option linter.unusedVariables false
set_option linter.unusedSimpArgs false
set_option maxRecDepth 100000
open Go.RowKit
section
variable {r:Request} {x:Plan} {k z:Int}
def drawn (r:Request) (x:Plan) (k z:Int) (W D:Nat):Int:=sumTo (fun py=>sumTo (fun px=>if pixS r x k z px py=46 then 0 else 1) W) D
end
end Go.Proofs.YtioijfplbgpjpaaGreat
namespace Go.Proofs.YtioijfplbgpjpaaGreat
set_option linter.unusedVariables false
set_option linter.unusedSimpArgs false
set_option maxRecDepth 100000
open Go.RowKit
section
variable {r:Request} {x:Plan}
end
end Go.Proofs.YtioijfplbgpjpaaGreat
namespace Go.Proofs.YtioijfplbgpjpaaGreat
set_option linter.unusedVariables false
set_option linter.unusedSimpArgs false
set_option maxRecDepth 100000
open Go.RowKit
theorem flat_apart {fps:List (List Nat)} (h:fps.flatten.Nodup) {i j:Nat} {f f':List Nat} (hi:fps[i]? = some f) (hj:fps[j]? = some f') (hne:i ≠ j) {b:Nat} (hb:b∈f) (hb':b∈f'):False:=by
 have h2:=(List.pairwise_flatten.1 h).2
 rw [List.pairwise_iff_getElem] at h2
 obtain ⟨h3,rfl⟩:=List.getElem?_eq_some_iff.1 hi
 obtain ⟨h4,rfl⟩:=List.getElem?_eq_some_iff.1 hj
 rcases Nat.lt_or_gt_of_ne hne with h5 | h5
 ·exact h2 i j h3 h4 h5 b hb b hb' rfl
 ·exact h2 j i h4 h3 h5 b hb' b hb rfl
section
variable {α:Type} {e K:Nat} {E:World→List Value→α→List Nat→Prop} {w w':World} {base:Nat} {v:Value} {xs:List α} {fp:List Nat}
def Back (e K:Nat) (E:World→List Value→α→List Nat→Prop) (w:World) (base:Nat) (v:Value) (xs:List α) (fp f:List Nat) (g j:Nat):Prop :=
 ∀ (w':World) (ecs':List Value) (x':α),ecs'.length=K→w.heap.size≤w'.heap.size→w'.heap[g]? = (setW w g (j * K) ecs').heap[g]?→(∀ b∈fp,b ≠ g→b ∉ f→w'.heap[b]? = w.heap[b]?)→E w' ecs' x' f→OL e K E w' base v (xs.set j x') fp
theorem OL.elem (h:OL e K E w base v xs fp) (hE:EFr E) {j:Nat} {x:α} (hx:xs[j]? = some x) :
  ∃ g c ecs f,(∀ b∈fp,b < w.heap.size)∧v=.slice (some ⟨g,0,none⟩) xs.length c∧base≤g∧g < w.heap.size∧g∈fp∧g ∉ f∧(∀ b∈f,b∈fp)∧ecs.length=K∧E w ecs x f ∧
   (∀ (t:Nat) (u:Value),ecs[t]? = some u→w.cell? ⟨g,j * K + t,none⟩=some u)∧(∀ o,w.frozen? ⟨g,o,none⟩=false)∧Back e K E w base v xs fp f g j:=by
 obtain ⟨cs,ifp,h1,rfl,hnd,hbd,fps,rfl,hfl,h5⟩:=h
 have hj:=(List.getElem?_eq_some_iff.1 hx).1
 obtain ⟨ecs,f,h6,h7,h8,h9⟩:=h5 j x hj hx
 rcases h1.2 with ⟨_,h0⟩ | ⟨g,cap,cur,rfl,hg,_⟩
 ·omega
 have hgm:g∈(Value.slice (some ⟨g,0,none⟩) xs.length cap).ownBlock.toList ++ fps.flatten:=by simp [Value.ownBlock]
 have hnd':=(List.nodup_append.1 hnd)
 have hfm:∀ {f':List Nat} {i:Nat},fps[i]? = some f'→∀ b∈f',b∈fps.flatten:=fun hi b hb=>List.mem_flatten.2 ⟨_,List.mem_of_getElem? hi,hb⟩
 have hgf:∀ {f':List Nat} {i:Nat},fps[i]? = some f'→∀ b∈f',b ≠ g:=fun hi b hb e=>hnd'.2.2 g (by simp [Value.ownBlock]) b (hfm hi b hb) e.symm
 refine ⟨g,cap,ecs,f,fun b hb=>(hbd b hb).2,rfl,hg,(hbd g hgm).2,hgm,fun hm=>hgf h7 g hm rfl,fun b hb=>List.mem_append.2 (.inr (hfm h7 b hb)),h6,h8,fun t u hu=>?_,h1.frozenAt,fun w' ecs' x' hl hs hg' hk hE'=>?_⟩
 ·have ht:=(List.getElem?_eq_some_iff.1 hu).1
  have hlt:j * K + t < xs.length * K:=by
   have:(j + 1) * K≤xs.length * K:=Nat.mul_le_mul_right _ hj
   rw [Nat.add_mul] at this
   omega
  rw [h1.cellAt _ hlt]
  exact h9 t u hu
 ·have hst:=storedL ecs' cs w (j * K) h1
  have hle:j * K + K≤cs.length:=by rw [h1.1,← Nat.succ_mul];exact Nat.mul_le_mul_right _ hj
  have hg2:=fun i=>setL_get ecs' cs (j * K) i (by rw [hl];exact hle)
  refine ⟨setL cs (j * K) ecs',fps.flatten,?_,by simp,hnd,fun b hb=>⟨(hbd b hb).1,Nat.lt_of_lt_of_le (hbd b hb).2 hs⟩,fps,rfl,by simp [hfl],fun i y hi hy=>?_⟩
  ·rw [List.length_set]
   exact own_block hst (fun b hb=>by simp [Value.ownBlock] at hb;rw [← hb,hg'])
  ·by_cases hij:i=j
   ·subst hij
    rw [List.getElem?_set_self hj] at hy
    injection hy with hy
    subst hy
    refine ⟨ecs',f,hl,h7,hE',fun t u hu=>?_⟩
    have ht:=(List.getElem?_eq_some_iff.1 hu).1
    rw [hg2,if_pos (by omega),show i * K + t - i * K=t by omega,hu]
   ·rw [List.getElem?_set_ne (fun e=>hij e.symm)] at hy
    obtain ⟨ecs2,f2,g1,g2,g3,g4⟩:=h5 i y (List.getElem?_eq_some_iff.1 hy).1 hy
    refine ⟨ecs2,f2,g1,g2,hE _ _ _ _ _ (fun b hb=>hk b (List.mem_append.2 (.inr (hfm g2 b hb))) (hgf g2 b hb) (fun hb'=>flat_apart hnd'.2.1 g2 h7 hij hb hb')) g3,fun t u hu=>?_⟩
    have ht:=(List.getElem?_eq_some_iff.1 hu).1
    rw [hg2,if_neg ?_]
    ·exact g4 t u hu
    ·rcases Nat.lt_or_gt_of_ne hij with h | h
     ·have:(i + 1) * K≤j * K:=Nat.mul_le_mul_right _ h
      rw [Nat.add_mul] at this
      omega
     ·have:(j + 1) * K≤i * K:=Nat.mul_le_mul_right _ h
      rw [Nat.add_mul] at this
      omega
end
theorem setCell_same {w:World} {g o:Nat} {u:Value} (h:w.cell? ⟨g,o,none⟩=some u):(w.setCell ⟨g,o,none⟩ u).heap[g]? = w.heap[g]?:=by
 unfold World.cell? at h
 simp only at h
 cases hg:w.heap[g]? with
 |none=>simp [hg] at h
 |some ob =>
  rw [hg] at h
  obtain ⟨hlt,hg'⟩:=Array.getElem?_eq_some_iff.1 hg
  cases ob <;> simp at h
  rename_i c elem fr
  have:c.setIfInBounds o u=c:=by
   apply Array.ext_getElem?
   intro i
   by_cases hi:i=o
   ·subst hi
    rw [Array.getElem?_setIfInBounds_self,h]
    have:=(Array.getElem?_eq_some_iff.1 h).1
    simp [this]
   ·rw [Array.getElem?_setIfInBounds_ne (fun e=>hi e.symm)]
  simp [World.setCell,Array.getElem?_modify,hg,this]
def mkC:Int→List Carton→List Carton
 |_,[]=>[]
 |k,c::cs=>⟨k,k + 1,mkS 1 mkInt (k + 1 + 1) c.units.length⟩::mkC (k + 1 + 1 + ((c.units.length * 1:Nat):Int)) cs
def cntC:List Carton→Nat
 |[]=>0
 |c::cs=>2 + c.units.length + cntC cs
theorem mkC_length:∀ (cs:List Carton) (k:Int),(mkC k cs).length=cs.length
 |[],_=>rfl
 |c::cs,k=>by simp [mkC,mkC_length cs]
theorem cntC_append:∀ (a b:List Carton),cntC (a ++ b)=cntC a + cntC b
 |[],b=>by simp [cntC]
 |c::a,b=>by simp [cntC,cntC_append a b];omega
theorem mkC_append:∀ (a b:List Carton) (k:Int),mkC k (a ++ b)=mkC k a ++ mkC (k + (cntC a:Nat)) b
 |[],b,k=>by simp [mkC,cntC]
 |c::a,b,k=>by
  simp only [List.cons_append,mkC,mkC_append a b,cntC]
  congr 3
  omega
theorem mkC_snoc {xs:List Carton} {j:Nat} {x:Carton} (hx:xs[j]? = some x) (k:Int):mkC k (xs.take (j + 1))=mkC k (xs.take j) ++ [⟨k + (cntC (xs.take j):Nat),k + (cntC (xs.take j):Nat) + 1,mkS 1 mkInt (k + (cntC (xs.take j):Nat) + 1 + 1) x.units.length⟩]:=by
 rw [List.take_add_one,hx,Option.toList_some,mkC_append]
 rfl
theorem cntC_snoc {xs:List Carton} {j:Nat} {x:Carton} (hx:xs[j]? = some x):cntC (xs.take (j + 1))=cntC (xs.take j) + (2 + x.units.length):=by
 rw [List.take_add_one,hx,Option.toList_some,cntC_append]
 rfl
theorem cntC_le:∀ (xs:List Carton),cntC xs=2 * xs.length + tot (fun c=>c.units.length) xs
 |[]=>rfl
 |c::cs=>by simp [cntC,tot,cntC_le cs];omega
theorem cntC_take (xs:List Carton) (j:Nat):cntC (xs.take j)≤cntC xs:=by
 have h:=cntC_append (xs.take j) (xs.drop j)
 rw [List.take_append_drop] at h
 omega
theorem set_mix {α:Type} {pre xs:List α} {j:Nat} (hp:pre.length=j) (hj:j < xs.length) (y:α):(pre ++ xs.drop j).set j y=(pre ++ [y]) ++ xs.drop (j + 1):=by
 rw [← hp,List.set_append_right _ _ (Nat.le_refl _),Nat.sub_self,hp,List.drop_eq_getElem_cons hj,List.set_cons_zero]
 simp
set_option maxHeartbeats 400000 in
theorem markCartonS_any (v:Value) (xs:List Carton) (fp:List Nat) (k:Int) (base:Nat) (w:World) (h:OCartons w base v xs fp) (hb:cntC xs≤16777216) (h0:0≤k) (h1:k≤2147483648) :
  Calls Tryz.prog 111 #[v,.int .i64 k] w fun e w'=>e=.returned (.int .i64 (k + (cntC xs:Nat)))∧OCartons w' base v (mkC k xs) fp∧Tch fp w w':=by
 obtain ⟨A,c,rfl⟩:=OL.form h
 have H:=Lib.hid h
 have hlen:xs.length≤16777216:=by rw [cntC_le] at hb;omega
 clear h
 go_enter Tryz.func111,Tryz.ntmps111
 go_wp2
 go_loopw [1,5] (fun kk i wr=>∃ j:Nat,∃ m:Int,j≤xs.length∧0≤m∧m≤4294967296∧kk=.int .i64 m∧i=.int .i64 j∧m=k + (cntC (xs.take j):Nat)∧OCartons wr base (.slice A xs.length c) (mkC k (xs.take j) ++ xs.drop j) fp∧Tch fp w wr) (fun _ i _=>xs.length - (intOf i).toNat)
 case atStart=>exact ⟨0,k,Nat.zero_le _,h0,by omega,rfl,rfl,by simp [cntC],by simpa [mkC] using H.out,Tch.refl _ _⟩
 case round =>
  obtain ⟨j,m,hj,hm0,hm1,rfl,rfl,hm,ho,ht⟩:=hrel
  have HM:=Lib.hid hm
  by_cases hlt:j < xs.length
  ·obtain ⟨x,hx⟩:∃ x,xs[j]? = some x:=⟨_,List.getElem?_eq_getElem hlt⟩
   have hpl:(mkC k (xs.take j)).length=j:=by rw [mkC_length,List.length_take];omega
   have hx':(mkC k (xs.take j) ++ xs.drop j)[j]? = some x:=by rw [List.getElem?_append_right (by omega),hpl,Nat.sub_self,List.getElem?_drop];simpa using hx
   have hcn:=cntC_snoc hx
   have hct:=cntC_take xs (j + 1)
   have hul:x.units.length≤16777216:=by omega
   have hm3:m + 2 + x.units.length≤4294967296:=by omega
   have HCN:=Lib.hid hcn
   obtain ⟨g,c',ecs,f,hfl,heq,hg1,hg2,hgf,hgn,hff,hel,⟨vu,rfl,hou,rfl⟩,hcell,hfr,hback⟩:=OL.elem ho ECarton_fr hx'
   injection heq with e1 e2 e3
   subst e1
   subst e3
   clear e2
   have hc0:=hcell 0 _ rfl
   have hc1:=hcell 1 _ rfl
   have hc2:=hcell 2 _ rfl
   simp only [Nat.add_zero] at hc0
   have HB:=Lib.hid hback
   have HX:=Lib.hid hx
   have HT:=Lib.hid ht
   have HP:=Lib.hid hpl
   have HE:=Lib.hid hff
   have hgu:∀ b,vu.ownBlock=some b→b ≠ g:=fun b hb e=>hgn (by rw [hb];simpa using e.symm)
   have hkeep:∀ b,b ≠ g→(setW wr g (j * 3) [.int .i64 m,.int .i64 (m + 1)]).heap[b]? = wr.heap[b]?:=fun b hb=>heap_setW hb _ _ _
   have hou2:=own_block (w':=setW wr g (j * 3) [.int .i64 m,.int .i64 (m + 1)]) hou (fun b hb=>hkeep b (hgu b hb))
   have HK:=Lib.hid hkeep
   have HO:=Lib.hid hou2
   clear hcell hx hx' hback ht hpl hm hcn hct ho hou hou2 hgu hff hkeep
   go_wp2_with fail
   refine (markIntS_any vu x.units (m + 1 + 1) 0 _ HO.out (by omega) (by omega) (by omega)).mono ?_
   rintro e w2 ⟨rfl,ho2,ht2⟩
   go_wp2
   go_roundw
   case rel =>
    have hm':=HM.out
    have hmk:mkC k (xs.take (j + 1))=mkC k (xs.take j) ++ [⟨m,m + 1,mkS 1 mkInt (m + 1 + 1) x.units.length⟩]:=by rw [mkC_snoc HX.out,hm']
    refine ⟨j + 1,_,hlt,?_,?_,rfl,by go_num,?_,?_,?_⟩
    ·omega
    ·omega
    ·rw [HCN.out];omega
    ·rw [hmk,← set_mix HP.out hlt]
     refine HB.out w2 [.int .i64 m,.int .i64 (m + 1),vu] _ rfl ?_ ?_ ?_ ⟨vu,rfl,by rw [mkS_length];exact ho2,rfl⟩
     ·exact Nat.le_trans (by rw [size_setW];exact Nat.le_refl _) ht2.size
     ·exact (ht2.block g (by rw [size_setW];exact hg2) (fun hm=>hgn hm)).trans (setCell_same (w:=setW wr g (j * 3) [.int .i64 m,.int .i64 (m + 1)]) (o:=j * 3 + 1 + 1) ((World.cell?_setCell_other _ _ _ _ (by simp)).trans ((World.cell?_setCell_other _ _ _ _ (by simp)).trans hc2))).symm
     ·intro b hb hne hnf
      refine (ht2.block b ?_ hnf).trans (HK.out b hne)
      rw [size_setW]
      exact hfl b hb
    ·refine HT.out.trans ((Tch.setW hgf [.int .i64 m,.int .i64 (m + 1)] wr (j * 3) (Tch.refl _ _)).trans (ht2.sub HE.out))
   case measure=>simp [intOf];omega
  ·obtain rfl:j=xs.length:=by omega
   rw [List.drop_length,List.append_nil,List.take_length] at ho
   rw [List.take_length] at HM
   clear hm
   go_wp2
   go_ret
   exact ⟨ret_int HM.out,ho,ht⟩
def cntP (p:Plan):Nat:=cntC p.cartons + p.spots.length * 4
def mkP (k:Int) (p:Plan):Plan:=⟨mkC k p.cartons,mkS 4 mkSpot (k + (cntC p.cartons:Nat)) p.spots.length⟩
theorem cntP_le (p:Plan):cntP p≤4 * p.bulk:=by unfold cntP Plan.bulk;rw [cntC_le];omega
set_option maxHeartbeats 400000 in
theorem markPlan_any (v:Value) (p:Plan) (fp:List Nat) (k:Int) (base:Nat) (w:World) (h:OPlan w base v p fp) (hb:p.bulk≤1048576) (h0:0≤k) (h1:k≤1073741824) :
  Calls Tryz.prog 33 #[v,.int .i64 k] w fun e w'=>e=.returned (.int .i64 (k + (cntP p:Nat)))∧OPlan w' base v (mkP k p) fp∧Tch fp w w':=by
 have hlt:=h.lt
 obtain ⟨v1,v2,f1,f2,rfl,ho1,ho2,rfl,hn⟩:=h
 have hcb:cntC p.cartons≤2097152:=by rw [cntC_le];unfold Plan.bulk at hb;omega
 have hsb:p.spots.length≤1048576:=by unfold Plan.bulk at hb;omega
 obtain ⟨n1,hn1⟩:∃ x,x=cntC p.cartons:=⟨_,rfl⟩
 rw [← hn1] at hcb
 have hd1:=(List.nodup_append.1 hn).2.2
 obtain ⟨A1,c1,rfl⟩:=OL.form ho1
 obtain ⟨A2,c2,rfl⟩:=OL.form ho2
 have hW:Below w.heap.size w (w.alloc (.cells #[.slice A1 p.cartons.length c1,.slice A2 p.spots.length c2] 46)):=(by repeat' with_reducible first | assumption | exact bR | apply bD | apply bA | apply bC | apply bN | simp <;> omega)
 have hmk:=fun W (hw:OCartons W base (.slice A1 p.cartons.length c1) p.cartons f1)=>markCartonS_any _ p.cartons f1 k base W hw (by rw [← hn1];omega) h0 (by omega)
 rw [← hn1] at hmk
 have HN1:=Lib.hid hn1
 have HM:=Lib.hid hmk
 have H1:=Lib.hid (OL.below ho1 ECarton_fr hW (fun b hb=>(OL.lt ho1 b hb).2))
 have H2:=Lib.hid (OL.below ho2 (eflat_fr _) hW (fun b hb=>(OL.lt ho2 b hb).2))
 have hbox:=heap_alloc_new w (.cells #[.slice A1 p.cartons.length c1,.slice A2 p.spots.length c2] 46)
 have HBX:=Lib.hid hbox
 have HD:=Lib.hid hd1
 have HN:=Lib.hid hn
 have hlo:∀ b∈f1 ++ f2,b < w.heap.size:=fun b hb=>(hlt b hb).2
 have HLO:=Lib.hid hlo
 clear hn1 hmk ho1 ho2 hbox hd1 hlt hlo hn
 go_enter Tryz.func33,Tryz.ntmps33
 go_wp2_with fail
 refine (HM.out _ H1.out).mono ?_
 rintro e w1 ⟨rfl,ho1,ht1⟩
 have hbx1:=(ht1.block w.heap.size (by simp) (fun hm=>by have:=HLO.out _ (List.mem_append.2 (.inl hm));omega)).trans HBX.out
 have hcx1:=fun j=>cell_of_row _ _ j _ _ (0,0) hbx1
 have HO1:=Lib.hid ho1
 have HT1:=Lib.hid ht1
 have ho2:=OL.tch H2.out (eflat_fr _) ht1 (fun b hb hm=>HD.out b hm b hb rfl)
 obtain ⟨hrow,hf2⟩:=own_of_OL ho2 (fun _=>rfl)
 have HR:=Lib.hid hrow
 have HF2:=Lib.hid hf2
 have HX1:=Lib.hid hbx1
 clear ho1 ht1 ho2 hrow hf2 hbx1
 go_wp2_with fail
 refine (markSpotS_any _ p.spots (k + (n1:Int)) base _ HR.out (by omega) (by omega) (by omega)).mono ?_
 rintro e w2 ⟨rfl,ho2,ht2⟩
 have ht12:=ht2.sub (fp':=f1 ++ f2) (fun b hb=>List.mem_append.2 (.inr (by rw [HF2.out];exact hb)))
 have HT2:=Lib.hid ht12
 have HO2:=Lib.hid ho2
 have HT2':=Lib.hid ht2
 clear ht12 ho2 ht2
 go_wp2
 go_ret
 refine ⟨ret_int ?_,⟨_,_,f1,f2,rfl,?_,?_,rfl,HN.out⟩,?_⟩
 ·have:=HN1.out;unfold cntP;omega
 ·refine (show OCartons _ _ _ (mkP k p).cartons f1 from ?_)
  rw [show (mkP k p).cartons=mkC k p.cartons from rfl]
  have:=OL.tch HO1.out ECarton_fr HT2'.out (fun b hb hm=>HD.out b hb b (by rw [HF2.out];exact hm) rfl)
  exact this
 ·rw [show (mkP k p).spots=mkS 4 mkSpot (k + (cntC p.cartons:Nat)) p.spots.length from rfl,HF2.out,← HN1.out]
  refine OL_of_own ?_ (fun _=>rfl)
  rw [mkS_length]
  exact HO2.out
 ·exact ((Tch.of hW _).trans (HT1.out.sub (fun b hb=>List.mem_append.2 (.inl hb)))).trans HT2.out
end Go.Proofs.YtioijfplbgpjpaaGreat
namespace Go.Proofs.YtioijfplbgpjpaaGreat
set_option linter.unusedVariables false
set_option linter.unusedSimpArgs false
set_option maxRecDepth 100000
open Go.RowKit
section
variable {α:Type} {e K:Nat} {E:World→List Value→α→List Nat→Prop} {w w':World} {base:Nat} {v:Value} {xs:List α} {fp:List Nat}
end
section
variable {w W W':World} {L:List Fact} {v:Value} {p:Plan} {fp:List Nat} {b:Nat}
theorem Sit.planTurn {l1 l2:List Fact} {q:Plan} (h:Sit w W (l1 ++ fOP b v p fp::l2)) (ht:Tch fp W W') (ho:OPlan W' b v q fp):Sit w W' (l1 ++ fOP b v q fp::l2) :=
 h.tch ht (fOP b v q fp) rfl (fOP_ok _ _ _ _) ho
end
end Go.Proofs.YtioijfplbgpjpaaGreat
