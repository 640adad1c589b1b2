/-
  Plain models of what lies on a pallet (chapters 23, 24): top, covered, beneath; the reference's and the program's way of telling who is beneath are one. No program is named here.
-/
import Derived.Test.YtioijfplbgpjpaaGreatKu26
namespace Go.Proofs.YtioijfplbgpjpaaGreat
set_option linter.unusedVariables false
set_option linter.unusedSimpArgs false
set_option maxRecDepth 100000
open Go.RowKit
def boxAt (r:Request) (x:Plan) (i:Int):Box:=boxR r (cartAt x i)
def topStep (r:Request) (x:Plan) (n i:Int):Int:=max n (wrap64 ((spotAt x i).z + (boxAt r x i).h))
def topR (r:Request) (x:Plan) (k:Int):Int:=if feasible r x=true then (onPal x k).foldl (topStep r x) 0 else 0
def atH (r:Request) (x:Plan) (z i:Int):Bool:=inB z (spotAt x i).z (wrap64 (wrap64 ((spotAt x i).z + (boxAt r x i).h) - 1))
def atHeight (r:Request) (x:Plan) (k z:Int):List Int:=(onPal x k).filter (atH r x z)
def covStep (r:Request) (x:Plan) (n i:Int):Int:=wrap64 (n + wrap64 ((boxAt r x i).w * (boxAt r x i).d))
def coveredR (r:Request) (x:Plan) (k z:Int):Int:=if feasible r x=true then (atHeight r x k z).foldl (covStep r x) 0 else 0
def zsOn (x:Plan) (k:Int):List Int:=(onPal x k).map fun i=>(spotAt x i).z
theorem feas_len {r:Request} {x:Plan} (h:feasible r x=true):x.spots.length=x.cartons.length∧x.cartons.length≤100:=by
 have hp:=(feasible_iff.1 h).2.1
 unfold planOk at hp
 simp only [Bool.and_eq_true,decide_eq_true_eq] at hp
 exact ⟨hp.1.1,hp.1.2⟩
theorem feas_inside {r:Request} {x:Plan} (h:feasible r x=true) {i:Nat} (hi:i < x.cartons.length):withinB r.pallet (boxAt r x i) (spotAt x i)=true :=
 List.all_eq_true.1 (spotsFault_zero (feasible_iff.1 h).2.2.2.2.2).1 i (List.mem_range.2 hi)
theorem within_facts {p:Pallet} {b:Box} {s:Spot} (h:withinB p b s=true):(0 < b.w∧b.w≤2000)∧(0 < b.d∧b.d≤2000)∧(0 < b.h∧b.h≤2000)∧(0≤s.x∧s.x≤2000)∧(0≤s.y∧s.y≤2000)∧(0≤s.z∧s.z≤2000)∧s.x + b.w≤p.w∧s.y + b.d≤p.d∧s.z + b.h≤p.h:=by
 simp only [withinB,placeB,inB,Bool.and_eq_true,decide_eq_true_eq] at h
 omega
theorem wrap_sum {a b:Int} (ha:0≤a∧a≤2000) (hb:0 < b∧b≤2000):wrap64 (a + b)=a + b:=by unfold wrap64;omega
theorem onPal_mem {x:Plan} {k u:Int} (hl:x.cartons.length=x.spots.length):u∈onPal x k↔∃ j:Nat,u=j∧j < x.spots.length∧(x.spots.getD j default).pallet=k:=by
 unfold onPal
 rw [if_pos hl,List.mem_map]
 constructor
 ·rintro ⟨j,hj,rfl⟩
  rw [List.mem_filter,List.mem_range] at hj
  exact ⟨j,rfl,hj.1,by simpa [onAt] using hj.2⟩
 ·rintro ⟨j,rfl,h1,h2⟩
  exact ⟨j,List.mem_filter.2 ⟨List.mem_range.2 h1,by simpa [onAt] using h2⟩,rfl⟩
end Go.Proofs.YtioijfplbgpjpaaGreat
namespace Go.Proofs.YtioijfplbgpjpaaGreat
set_option linter.unusedVariables false
set_option linter.unusedSimpArgs false
set_option maxRecDepth 100000
open Go.RowKit
def point:Box:=⟨1,1,1,0⟩
theorem feas_apart {r:Request} {x:Plan} (h:feasible r x=true) {i j:Nat} (hi:i < x.cartons.length) (hj:j < i):overB (boxAt r x i) (spotAt x i) (boxAt r x j) (spotAt x j)=false:=by
 have h1:=List.all_eq_true.1 (spotsFault_zero (feasible_iff.1 h).2.2.2.2.2).2.1 i (List.mem_range.2 hi)
 have h2:=List.all_eq_true.1 h1 j (List.mem_range.2 hj)
 have h3:overIJ r x i j=false:=by simpa using h2
 exact h3
section
variable {r:Request} {x:Plan} {k z px py:Int}
theorem atHeight_mem (h:feasible r x=true) {u:Int} : u∈atHeight r x k z↔∃ j:Nat,u=j∧j < x.cartons.length∧(spotAt x j).pallet=k∧(spotAt x j).z≤z∧z < (spotAt x j).z + (boxAt r x j).h:=by
 obtain ⟨hl,_⟩:=feas_len h
 unfold atHeight
 rw [List.mem_filter,onPal_mem hl.symm]
 constructor
 ·rintro ⟨⟨j,rfl,h1,h2⟩,h3⟩
  have hj:j < x.cartons.length:=by omega
  obtain ⟨a1,a2,a3,a4,a5,a6,_⟩:=within_facts (feas_inside h hj)
  have e0:x.spots.getD j default=spotAt x (j:Int):=by unfold spotAt;rw [Int.toNat_natCast]
  unfold atH at h3
  rw [wrap_sum a6 a3] at h3
  have e1:wrap64 ((spotAt x (j:Int)).z + (boxAt r x (j:Int)).h - 1)=(spotAt x (j:Int)).z + (boxAt r x (j:Int)).h - 1:=by unfold wrap64;omega
  rw [e1] at h3
  simp only [inB,Bool.and_eq_true,decide_eq_true_eq] at h3
  exact ⟨j,rfl,hj,e0 ▸ h2,h3.1,by omega⟩
 ·rintro ⟨j,rfl,hj,h2,h3,h4⟩
  obtain ⟨a1,a2,a3,a4,a5,a6,_⟩:=within_facts (feas_inside h hj)
  have e0:x.spots.getD j default=spotAt x (j:Int):=by unfold spotAt;rw [Int.toNat_natCast]
  refine ⟨⟨j,rfl,by omega,by rw [e0];exact h2⟩,?_⟩
  unfold atH
  rw [wrap_sum a6 a3]
  have e1:wrap64 ((spotAt x (j:Int)).z + (boxAt r x (j:Int)).h - 1)=(spotAt x (j:Int)).z + (boxAt r x (j:Int)).h - 1:=by unfold wrap64;omega
  rw [e1]
  simp only [inB,Bool.and_eq_true,decide_eq_true_eq]
  omega
end
end Go.Proofs.YtioijfplbgpjpaaGreat
namespace Go.Proofs.YtioijfplbgpjpaaGreat
set_option linter.unusedVariables false
set_option linter.unusedSimpArgs false
set_option maxRecDepth 100000
open Go.RowKit
theorem fold_max (f:Int→Int):∀ (l:List Int) (n:Int),n≤l.foldl (fun n i=>max n (f i)) n∧(∀ u∈l,f u≤l.foldl (fun n i=>max n (f i)) n)∧(l.foldl (fun n i=>max n (f i)) n=n ∨ ∃ u∈l,l.foldl (fun n i=>max n (f i)) n=f u)
 |[],n=>⟨Int.le_refl _,by simp,.inl rfl⟩
 |a::l,n=>by
  obtain ⟨h1,h2,h3⟩:=fold_max f l (max n (f a))
  rw [List.foldl_cons]
  refine ⟨by omega,fun u hu=>?_,?_⟩
  ·rcases List.mem_cons.1 hu with rfl | hu
   ·omega
   ·exact h2 u hu
  ·rcases h3 with h3 | ⟨u,hu,h3⟩
   ·by_cases hn:f a≤n
    ·exact .inl (by omega)
    ·exact .inr ⟨a,by simp,by omega⟩
   ·exact .inr ⟨u,by simp [hu],h3⟩
def endZ (r:Request) (x:Plan) (i:Int):Int:=(spotAt x i).z + (boxAt r x i).h
def areaOf (r:Request) (x:Plan) (i:Int):Int:=(boxAt r x i).w * (boxAt r x i).d
section
variable {r:Request} {x:Plan} {k z:Int}
theorem onPal_feas (h:feasible r x=true) {u:Int} : u∈onPal x k↔∃ j:Nat,u=j∧j < x.cartons.length∧(spotAt x j).pallet=k:=by
 obtain ⟨hl,_⟩:=feas_len h
 rw [onPal_mem hl.symm]
 constructor
 ·rintro ⟨j,rfl,h1,h2⟩
  exact ⟨j,rfl,by omega,by unfold spotAt;rw [Int.toNat_natCast];exact h2⟩
 ·rintro ⟨j,rfl,h1,h2⟩
  exact ⟨j,rfl,by omega,by unfold spotAt at h2;rw [Int.toNat_natCast] at h2;exact h2⟩
theorem onPal_facts (h:feasible r x=true) {u:Int} (hu:u∈onPal x k):(0 < (boxAt r x u).w∧(boxAt r x u).w≤2000)∧(0 < (boxAt r x u).d∧(boxAt r x u).d≤2000)∧(0 < (boxAt r x u).h∧(boxAt r x u).h≤2000)∧(0≤(spotAt x u).x∧(spotAt x u).x≤2000)∧(0≤(spotAt x u).y∧(spotAt x u).y≤2000)∧(0≤(spotAt x u).z∧(spotAt x u).z≤2000)∧(spotAt x u).x + (boxAt r x u).w≤r.pallet.w∧(spotAt x u).y + (boxAt r x u).d≤r.pallet.d∧(spotAt x u).z + (boxAt r x u).h≤r.pallet.h:=by
 obtain ⟨j,rfl,hj,_⟩:=(onPal_feas h).1 hu
 exact within_facts (feas_inside h hj)
theorem fold_congr {α β:Type} {f g:β→α→β} : ∀ (l:List α) (b:β),(∀ u∈l,∀ b,f b u=g b u)→l.foldl f b=l.foldl g b
 |[],_,_=>rfl
 |a::l,b,h=>by rw [List.foldl_cons,List.foldl_cons,h a (by simp)];exact fold_congr l _ (fun u hu=>h u (by simp [hu]))
theorem topR_feas (h:feasible r x=true):topR r x k=(onPal x k).foldl (fun n i=>max n (endZ r x i)) 0:=by
 unfold topR
 rw [if_pos h]
 refine fold_congr _ _ fun u hu n=>?_
 obtain ⟨_,_,a3,_,_,a6,_⟩:=onPal_facts h hu
 unfold topStep endZ
 rw [wrap_sum a6 a3]
theorem top_facts (h:feasible r x=true):(∀ u∈onPal x k,endZ r x u≤topR r x k)∧(onPal x k=[] ∨ ∃ u∈onPal x k,endZ r x u=topR r x k)∧0≤topR r x k∧topR r x k≤r.pallet.h:=by
 rw [topR_feas h]
 obtain ⟨h1,h2,h3⟩:=fold_max (endZ r x) (onPal x k) 0
 have hp:1≤r.pallet.h:=by
  have:=(right_of (feasible_iff.1 h).1).pal
  simp only [palletOk,sideOk,inB,Bool.and_eq_true,decide_eq_true_eq] at this
  omega
 refine ⟨h2,?_,h1,?_⟩
 ·rcases h3 with h3 | ⟨u,hu,h3⟩
  ·cases hl:onPal x k with
   |nil=>exact .inl rfl
   |cons a l =>
    exfalso
    have ha:a∈onPal x k:=by rw [hl];simp
    have h4:=h2 a ha
    obtain ⟨_,_,a3,_,_,a6,_⟩:=onPal_facts h ha
    unfold endZ at h4 h3
    omega
  ·exact .inr ⟨u,hu,h3.symm⟩
 ·rcases h3 with h3 | ⟨u,hu,h3⟩
  ·omega
  ·rw [h3]
   obtain ⟨_,_,_,_,_,_,_,_,a9⟩:=onPal_facts h hu
   exact a9
theorem onPal_len:(onPal x k).length≤x.spots.length:=by
 unfold onPal
 split
 ·rw [List.length_map]
  exact Nat.le_trans (List.length_filter_le _ _) (by simp)
 ·simp
theorem area_range (h:feasible r x=true) {u:Int} (hu:u∈onPal x k):1≤areaOf r x u∧areaOf r x u≤4000000:=by
 obtain ⟨a1,a2,_⟩:=onPal_facts h hu
 unfold areaOf
 constructor
 ·have:=Int.mul_le_mul (show (1:Int)≤(boxAt r x u).w by omega) (show (1:Int)≤(boxAt r x u).d by omega) (by omega) (by omega)
  omega
 ·have:=Int.mul_le_mul a1.2 a2.2 (by omega) (by omega)
  omega
theorem cov_fold:∀ (l:List Int) (n:Int),(∀ u∈l,1≤areaOf r x u∧areaOf r x u≤4000000)→0≤n→n + 4000000 * l.length≤4000000000000→l.foldl (covStep r x) n=n + (l.map (areaOf r x)).sum∧n≤l.foldl (covStep r x) n∧(l ≠ []→n < l.foldl (covStep r x) n)
 |[],n,_,_,_=>⟨by simp,Int.le_refl _,fun h=>absurd rfl h⟩
 |a::l,n,h,h0,h1=>by
  have ha:=h a (by simp)
  simp only [List.length_cons] at h1
  have e:covStep r x n a=n + areaOf r x a:=by
   unfold covStep
   have e1:wrap64 ((boxAt r x a).w * (boxAt r x a).d)=areaOf r x a:=by
    show wrap64 (areaOf r x a)=_
    unfold wrap64;omega
   rw [e1]
   unfold wrap64;omega
  obtain ⟨i1,i2,i3⟩:=cov_fold l (n + areaOf r x a) (fun u hu=>h u (by simp [hu])) (by omega) (by omega)
  rw [List.foldl_cons,e]
  refine ⟨by rw [i1,List.map_cons,List.sum_cons];omega,by omega,fun _=>by omega⟩
theorem atHeight_sub {u:Int} (hu:u∈atHeight r x k z):u∈onPal x k:=(List.mem_filter.1 hu).1
theorem covered_sum (h:feasible r x=true):coveredR r x k z=((atHeight r x k z).map (areaOf r x)).sum∧0≤coveredR r x k z∧(atHeight r x k z ≠ []→0 < coveredR r x k z):=by
 unfold coveredR
 rw [if_pos h]
 have hl:(atHeight r x k z).length≤100:=by
  have h1:=feas_len h
  have h2:=onPal_len (x:=x) (k:=k)
  have h3:(atHeight r x k z).length≤(onPal x k).length:=List.length_filter_le _ _
  omega
 obtain ⟨i1,i2,i3⟩:=cov_fold (r:=r) (x:=x) (atHeight r x k z) 0 (fun u hu=>area_range h (atHeight_sub hu)) (by omega) (by omega)
 exact ⟨by rw [i1];omega,i2,i3⟩
theorem covered_none (h:feasible r x=true) (hn:∀ u∈onPal x k,z < (spotAt x u).z ∨ endZ r x u≤z):coveredR r x k z=0:=by
 have he:atHeight r x k z=[]:=by
  rw [List.eq_nil_iff_forall_not_mem]
  intro u hu
  obtain ⟨j,rfl,hj,h1,h2,h3⟩:=(atHeight_mem h).1 hu
  have:=hn _ (atHeight_sub hu)
  unfold endZ at this
  omega
 rw [(covered_sum h).1,he]
 rfl
theorem covered_some (h:feasible r x=true) {u:Int} (hu:u∈onPal x k) (hz:(spotAt x u).z=z):1≤coveredR r x k z:=by
 have hm:u∈atHeight r x k z:=by
  obtain ⟨j,rfl,hj,h1⟩:=(onPal_feas h).1 hu
  obtain ⟨_,_,a3,_⟩:=onPal_facts h hu
  exact (atHeight_mem h).2 ⟨j,rfl,hj,h1,by omega,by omega⟩
 have:=(covered_sum h (k:=k) (z:=z)).2.2 (fun e=>by rw [e] at hm;simp at hm)
 omega
theorem covered_top (h:feasible r x=true):coveredR r x k (topR r x k)=0:=covered_none h fun u hu=>.inr ((top_facts h).1 u hu)
end
end Go.Proofs.YtioijfplbgpjpaaGreat
