/-
  Who is beneath: both sides.
-/
import Derived.Test.YtioijfplbgpjpaaGreatKu43
import Derived.Test.YtioijfplbgpjpaaGreatKu33
import Derived.Deep.RegionHeld3
import Derived.Deep.DeepCutAuto
import Derived.Deep.RegionLaw
import Derived.Deep.RegionWith
import Derived.StillTailTactics
import Derived.Test.YtioijfplbgpjpaaGreatKu29
namespace Go.Proofs.YtioijfplbgpjpaaGreat
set_option linter.unusedVariables false
set_option linter.unusedSimpArgs false
set_option maxRecDepth 100000
open Go.RowKit Go.WideShapes Go.ChangeShapes Go.ChangeAt Go.Deep
end Go.Proofs.YtioijfplbgpjpaaGreat
namespace Go.Proofs.YtioijfplbgpjpaaGreat
set_option linter.unusedVariables false
set_option linter.unusedSimpArgs false
set_option maxRecDepth 100000
open Go.RowKit Go.WideShapes Go.ChangeShapes Go.ChangeAt Go.Deep
end Go.Proofs.YtioijfplbgpjpaaGreat
namespace Go.Proofs.YtioijfplbgpjpaaGreat
set_option linter.unusedVariables false
set_option linter.unusedSimpArgs false
set_option maxRecDepth 100000
open Go.RowKit
def Spot.down (s:Spot):Spot:={ s with z:=s.z - 1 }
def fall (free:Spot→Bool):Nat→Spot→Spot
 |0,s=>s
 |f + 1,s=>if (decide (0 < s.z) && free s.down)=true then fall free f s.down else s
def freeAt (r:Request) (x:Plan) (S:List Spot) (i:Nat) (s:Spot):Bool:=(List.range x.cartons.length).all fun k=>decide (k=i) || !overB (boxAt r x i) s (boxAt r x k) (S.getD k default)
def dropOne (r:Request) (x:Plan) (S:List Spot) (i:Nat):List Spot:=S.set i (fall (freeAt r x S i) (S.getD i default).z.toNat (S.getD i default))
def dropSpots (r:Request) (x:Plan) (n:Nat):List Spot:=(List.range n).foldl (dropOne r x) x.spots
def droppedR (r:Request) (x:Plan):Plan:=if feasible r x=true then ⟨x.cartons,dropSpots r x x.cartons.length⟩ else x
def Spot.under (s t:Spot):Prop:=s.pallet=t.pallet∧s.x=t.x∧s.y=t.y∧s.z≤t.z∧(0≤t.z→0≤s.z)
theorem Spot.under_refl (s:Spot):s.under s:=⟨rfl,rfl,rfl,Int.le_refl _,id⟩
theorem Spot.under_trans {s t u:Spot} (h1:s.under t) (h2:t.under u):s.under u:=⟨h1.1.trans h2.1,h1.2.1.trans h2.2.1,h1.2.2.1.trans h2.2.2.1,Int.le_trans h1.2.2.2.1 h2.2.2.2.1,fun h=>h1.2.2.2.2 (h2.2.2.2.2 h)⟩
theorem fall_under (free:Spot→Bool):∀ (f:Nat) (s:Spot),(fall free f s).under s
 |0,s=>s.under_refl
 |f + 1,s=>by
  unfold fall
  split
  ·rename_i h
   simp only [Bool.and_eq_true,decide_eq_true_eq] at h
   exact Spot.under_trans (fall_under free f s.down) ⟨rfl,rfl,rfl,by show s.z - 1≤s.z;omega,fun _=>by show 0≤s.z - 1;omega⟩
  ·exact s.under_refl
theorem fall_free (free:Spot→Bool):∀ (f:Nat) (s:Spot),free s=true→free (fall free f s)=true
 |0,_,h=>h
 |f + 1,s,h=>by
  unfold fall
  split
  ·rename_i hc
   simp only [Bool.and_eq_true,decide_eq_true_eq] at hc
   exact fall_free free f s.down hc.2
  ·exact h
theorem drop_len (r:Request) (x:Plan):∀ n,(dropSpots r x n).length=x.spots.length
 |0=>rfl
 |n + 1=>by
  unfold dropSpots
  rw [List.range_succ,List.foldl_append]
  show (dropOne r x (dropSpots r x n) n).length=_
  unfold dropOne
  rw [List.length_set]
  exact drop_len r x n
theorem drop_succ (r:Request) (x:Plan) (n:Nat):dropSpots r x (n + 1)=dropOne r x (dropSpots r x n) n:=by
 unfold dropSpots
 rw [List.range_succ,List.foldl_append]
 rfl
theorem getD_set {α:Type} [Inhabited α] {S:List α} {i j:Nat} {s:α} (hi:i < S.length):(S.set i s).getD j default=if j=i then s else S.getD j default:=by
 rw [List.getD_eq_getElem?_getD,List.getD_eq_getElem?_getD,List.getElem?_set]
 by_cases h:i=j
 ·subst h
  rw [if_pos rfl,if_pos hi,if_pos rfl]
  rfl
 ·rw [if_neg h,if_neg (fun e=>h e.symm)]
theorem drop_under (r:Request) (x:Plan):∀ n,n≤x.spots.length→∀ j,((dropSpots r x n).getD j default).under (x.spots.getD j default)
 |0,_,j=>Spot.under_refl _
 |n + 1,hn,j=>by
  have ih:=drop_under r x n (by omega)
  rw [drop_succ]
  unfold dropOne
  rw [getD_set (by rw [drop_len];omega)]
  split
  ·rename_i e
   subst e
   exact Spot.under_trans (fall_under _ _ _) (ih j)
  ·exact ih j
theorem over_comm (a b:Box) (s t:Spot):overB a s b t=overB b t a s:=by
 rw [Bool.eq_iff_iff]
 unfold overB crossB
 simp only [Bool.and_eq_true,decide_eq_true_eq,beq_iff_eq]
 constructor
 ·rintro ⟨h1,h2,h3,⟨h4,h5⟩,⟨h6,h7⟩,h8,h9⟩
  exact ⟨h2,h1,h3.symm,⟨h5,h4⟩,⟨h7,h6⟩,h9,h8⟩
 ·rintro ⟨h1,h2,h3,⟨h4,h5⟩,⟨h6,h7⟩,h8,h9⟩
  exact ⟨h2,h1,h3.symm,⟨h5,h4⟩,⟨h7,h6⟩,h9,h8⟩
def Apart2 (r:Request) (x:Plan) (S:List Spot):Prop:=∀ i j,i < x.cartons.length→j < x.cartons.length→i ≠ j→overB (boxAt r x i) (S.getD i default) (boxAt r x j) (S.getD j default)=false
theorem apart_of {r:Request} {x:Plan} (h:feasible r x=true):Apart2 r x x.spots:=by
 intro i j hi hj hne
 have e:∀ n:Nat,x.spots.getD n default=spotAt x (n:Int):=fun n=>by unfold spotAt;rw [Int.toNat_natCast]
 rw [e,e]
 rcases Nat.lt_or_ge j i with hl | hl
 ·exact feas_apart h hi hl
 ·rw [over_comm]
  exact feas_apart h hj (by omega)
theorem drop_apart {r:Request} {x:Plan} (h:feasible r x=true):∀ n,n≤x.cartons.length→Apart2 r x (dropSpots r x n)
 |0,_=>apart_of h
 |n + 1,hn=>by
  have ih:=drop_apart h n (by omega)
  have hl:=feas_len h
  have hn2:n < (dropSpots r x n).length:=by rw [drop_len];omega
  have hfr:freeAt r x (dropSpots r x n) n ((dropSpots r x n).getD n default)=true:=by
   unfold freeAt
   rw [List.all_eq_true]
   intro k hk
   have hk:=List.mem_range.1 hk
   by_cases e:k=n
   ·simp [e]
   ·rw [ih n k (by omega) hk (fun e2=>e e2.symm)];simp
  have hf2:=fall_free (freeAt r x (dropSpots r x n) n) ((dropSpots r x n).getD n default).z.toNat _ hfr
  rw [drop_succ]
  unfold dropOne
  generalize fall (freeAt r x (dropSpots r x n) n) ((dropSpots r x n).getD n default).z.toNat ((dropSpots r x n).getD n default)=s at hf2 ⊢
  have hs:∀ k,k < x.cartons.length→k ≠ n→overB (boxAt r x n) s (boxAt r x k) ((dropSpots r x n).getD k default)=false:=by
   intro k hk hkn
   unfold freeAt at hf2
   have:=List.all_eq_true.1 hf2 k (List.mem_range.2 hk)
   simpa [hkn] using this
  intro i j hi hj hne
  rw [getD_set hn2,getD_set hn2]
  by_cases e1:i=n
  ·subst e1
   rw [if_pos rfl,if_neg (fun e=>hne e.symm)]
   exact hs j hj (fun e=>hne e.symm)
  ·rw [if_neg e1]
   by_cases e2:j=n
   ·subst e2
    rw [if_pos rfl,over_comm]
    exact hs i hi e1
   ·rw [if_neg e2]
    exact ih i j hi hj hne
section
variable {r:Request} {x y:Plan}
theorem spotAt_nat (x:Plan) (n:Nat):spotAt x (n:Int)=x.spots.getD n default:=by unfold spotAt;rw [Int.toNat_natCast]
theorem feas_turn (h:feasible r x=true) (S:List Spot) (hl:S.length=x.spots.length) (hp:∀ j:Nat,j < x.cartons.length→(S.getD j default).pallet=(x.spots.getD j default).pallet) (hw:∀ j:Nat,j < x.cartons.length→withinB r.pallet (boxAt r x j) (S.getD j default)=true) (ha:Apart2 r x S):feasible r ⟨x.cartons,S⟩=true:=by
 obtain ⟨f1,f2,f3,f4,f5,f6⟩:=feasible_iff.1 h
 have hlx:=feas_len h
 refine feasible_iff.2 ⟨f1,?_,f3,f4,f5,?_⟩
 ·unfold planOk at f2 ⊢
  simp only [Bool.and_eq_true,decide_eq_true_eq,List.all_eq_true,List.mem_range] at f2 ⊢
  refine ⟨⟨by omega,f2.1.2⟩,fun i hi=>⟨(f2.2 i hi).1,?_⟩⟩
  have h1:=(f2.2 i hi).2
  obtain ⟨_,_,_,b4,b5,b6,_⟩:=within_facts (hw i hi)
  simp only [spotOk,inB,Bool.and_eq_true,decide_eq_true_eq] at h1 ⊢
  rw [hp i hi]
  omega
 ·obtain ⟨g1,g2,g3⟩:=spotsFault_zero f6
  have hpal:∀ k,onPal ⟨x.cartons,S⟩ k=onPal x k:=fun k=>by
   unfold onPal
   show (if x.cartons.length=S.length then _ else _)=_
   rw [if_pos (by omega),if_pos (by omega),hl]
   congr 1
   refine List.filter_congr fun j hj=>?_
   have hj:=List.mem_range.1 hj
   show ((S.getD j default).pallet == k)=((x.spots.getD j default).pallet == k)
   rw [hp j (by omega)]
  have hpn:palletsR S=palletsR x.spots:=by
   unfold palletsR
   have e:S.map (·.pallet)=x.spots.map (·.pallet):=by
    refine List.ext_getElem (by simp [hl]) fun j h1 h2=>?_
    have hj:j < x.spots.length:=by simpa using h2
    have hj2:j < S.length:=by omega
    have:=hp j (by omega)
    rw [List.getD_eq_getElem?_getD,List.getElem?_eq_getElem hj2,List.getD_eq_getElem?_getD,List.getElem?_eq_getElem hj] at this
    simpa using this
   have e2:∀ (l:List Spot) (n:Int),l.foldl palStep n=(l.map (·.pallet)).foldl (fun n q=>if inB q 0 999999=true then max n (wrap64 (q + 1)) else n) n:=by
    intro l
    induction l with
    |nil=>intro n;rfl
    |cons a l ih=>intro n;rw [List.map_cons,List.foldl_cons,List.foldl_cons];exact ih _
   rw [e2,e2,e]
  unfold spotsFault
  show (if (List.range x.cartons.length).all (insideI r ⟨x.cartons,S⟩)=true then (if (List.range x.cartons.length).all (apartI r ⟨x.cartons,S⟩)=true then (if (List.range (palletsR S).toNat).all (palletK r ⟨x.cartons,S⟩)=true then (0:Int) else 9) else 8) else 7)=0
  rw [hpn,if_pos,if_pos,if_pos]
  ·rw [List.all_eq_true] at g3 ⊢
   intro k hk
   have:=g3 k hk
   unfold palletK palGram at this ⊢
   rw [hpal]
   exact this
  ·rw [List.all_eq_true]
   intro i hi
   have hi:=List.mem_range.1 hi
   unfold apartI
   rw [List.all_eq_true]
   intro j hj
   have hj:=List.mem_range.1 hj
   have:=ha i j hi (by omega) (by omega)
   unfold overIJ
   rw [spotAt_nat,spotAt_nat]
   show (!overB (boxAt r x i) (S.getD i default) (boxAt r x j) (S.getD j default))=true
   rw [this]
   rfl
  ·rw [List.all_eq_true]
   intro i hi
   have hi:=List.mem_range.1 hi
   unfold insideI
   rw [spotAt_nat]
   exact hw i hi
theorem within_under {p:Pallet} {b:Box} {s t:Spot} (h:withinB p b t=true) (hu:s.under t):withinB p b s=true:=by
 have h0:=within_facts h
 obtain ⟨u1,u2,u3,u4,u5⟩:=hu
 simp only [withinB,placeB,inB,Bool.and_eq_true,decide_eq_true_eq]
 have:=u5 (by omega)
 omega
theorem dropped_feas (h:feasible r x=true):feasible r (droppedR r x)=true:=by
 have hl:=feas_len h
 unfold droppedR
 rw [if_pos h]
 refine feas_turn h _ (drop_len r x _) (fun j hj=>(drop_under r x _ (by omega) j).1) (fun j hj=>?_) (drop_apart h _ (Nat.le_refl _))
 refine within_under ?_ (drop_under r x _ (by omega) j)
 have:=feas_inside h hj
 rw [spotAt_nat] at this
 exact this
theorem dropped_under (h:feasible r x=true) (j:Nat):(spotAt (droppedR r x) j).under (spotAt x j):=by
 have hl:=feas_len h
 rw [spotAt_nat,spotAt_nat]
 unfold droppedR
 rw [if_pos h]
 exact drop_under r x _ (by omega) j
theorem dropped_top (k:Int):topR r (droppedR r x) k≤topR r x k:=by
 by_cases h:feasible r x=true
 ·have hd:=dropped_feas h
  obtain ⟨t1,t2,t3,t4⟩:=top_facts hd (k:=k)
  obtain ⟨u1,_,u3,_⟩:=top_facts h (k:=k)
  rcases t2 with t2 | ⟨u,hu,t2⟩
  ·rw [topR_feas hd,t2]
   exact u3
  ·obtain ⟨j,rfl,hj,hp⟩:=(onPal_feas hd).1 hu
   have hun:=dropped_under h j
   have hc:(droppedR r x).cartons=x.cartons:=by unfold droppedR;rw [if_pos h]
   have hb:boxAt r (droppedR r x) (j:Int)=boxAt r x (j:Int):=by unfold boxAt cartAt;rw [hc]
   have hm:(j:Int)∈onPal x k:=(onPal_feas h).2 ⟨j,rfl,by rw [← hc];exact hj,by rw [← hun.1];exact hp⟩
   have:=u1 _ hm
   rw [← t2]
   unfold endZ at this ⊢
   rw [hb]
   have:=hun.2.2.2.1
   omega
 ·unfold droppedR
  rw [if_neg h]
  exact Int.le_refl _
end
end Go.Proofs.YtioijfplbgpjpaaGreat
