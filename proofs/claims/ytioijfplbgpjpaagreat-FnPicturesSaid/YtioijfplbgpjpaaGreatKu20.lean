/-
  A plan that is drawn: what is read of it, the reference's walk.
-/
import Derived.Test.YtioijfplbgpjpaaGreatKu43
import Derived.Test.YtioijfplbgpjpaaGreatKu19
import Derived.Test.YtioijfplbgpjpaaGreatKu02
import Derived.Test.YtioijfplbgpjpaaGreatKu00
import Derived.Deep.RegionHeld3
import Derived.Deep.DeepCutAuto
import Derived.Deep.CutBlock
import Derived.Deep.RegionLaw
import Derived.Deep.RegionWith
import Derived.StillTailTactics
namespace Go.Proofs.YtioijfplbgpjpaaGreat
set_option linter.unusedVariables false
set_option linter.unusedSimpArgs false
set_option maxRecDepth 100000
open Go.RowKit Go.WideShapes Go.ChangeShapes Go.ChangeAt Go.Deep
def SOn (W:World) (v:Value) (S:List Spot) (fp:List Nat):Prop:=ROn Spot.cells 4 W v S fp∧∀ b∈fp,∃ cs t,W.heap[b]? = some (.cells cs t (0,0))
theorem SOn.keep {W W':World} {v:Value} {S:List Spot} {fp:List Nat} (h:SOn W v S fp) (hk:∀ b∈fp,W'.heap[b]? = W.heap[b]?):SOn W' v S fp :=
 ⟨h.1.keep hk,fun b hb=>by obtain ⟨cs,t,e⟩:=h.2 b hb;exact ⟨cs,t,(hk b hb).trans e⟩⟩
theorem SOn.of {e base:Nat} {W:World} {v:Value} {S:List Spot} {fp:List Nat} (h:OF Spot.cells e 4 W base v S fp):SOn W v S fp:=by
 refine ⟨ROn.of h (fun _=>rfl),fun b hb=>?_⟩
 obtain ⟨⟨_,h2⟩,rfl⟩:=h
 rcases h2 with ⟨rfl,_⟩ | ⟨g,cap,cur,rfl,_,hh,_⟩
 ·simp [Value.ownBlock] at hb
 ·have hbg:b=g:=by simpa [Value.ownBlock] using hb
  subst hbg
  exact ⟨_,_,hh⟩
theorem SOn.put {W:World} {S:List Spot} {fp:List Nat} {b off n c i j:Nat} {s s':Spot} {u:Value} (h:SOn W (.slice (some ⟨b,off,none⟩) n c) S fp) (hx:S[i]? = some s) (hj:j < 4) (hy:s.cells.set j u=s'.cells) :
  SOn (W.setCell ⟨b,off + i * 4 + j,none⟩ u) (.slice (some ⟨b,off,none⟩) n c) (S.set i s') fp∧b∈fp:=by
 obtain ⟨⟨A,c',hv,hc,hr⟩,hw⟩:=h
 injection hv with e1 e2 e3
 subst e2 e3
 have hi:=(List.getElem?_eq_some_iff.1 hx).1
 obtain ⟨b',off',e4,hb,hel⟩:=hr (by omega)
 rw [← e1] at e4
 injection e4 with e5
 injection e5 with e6 e7
 subst e6 e7
 obtain ⟨cs,t,hcs⟩:=hw b hb
 have hW:=heap_setCell_same W b (off + i * 4 + j) _ _ u hcs
 have hold:=hel i s hx j (s.cells[j]'(by show j < 4;exact hj)) (List.getElem?_eq_getElem _)
 rw [cell_of_row _ _ _ _ _ (0,0) hcs] at hold
 have hlt:=(Array.getElem?_eq_some_iff.1 hold).1
 refine ⟨⟨⟨A,c,by rw [e1,List.length_set],by rw [List.length_set];exact hc,fun _=>⟨b,off,by rw [← e1],hb,fun i2 x hi2 j2 u2 hu2=>?_⟩⟩,fun b2 hb2=>?_⟩,hb⟩
 ·rw [cell_of_row _ _ _ _ _ (0,0) hW]
  by_cases hii:i=i2
  ·subst hii
   rw [List.getElem?_set_self hi] at hi2
   injection hi2 with hi2
   subst hi2
   rw [← hy] at hu2
   by_cases hjj:j=j2
   ·subst hjj
    rw [List.getElem?_set_self (by show j < 4;exact hj)] at hu2
    injection hu2 with hu2
    subst hu2
    rw [Array.getElem?_setIfInBounds_self_of_lt hlt]
   ·rw [List.getElem?_set_ne hjj] at hu2
    rw [Array.getElem?_setIfInBounds_ne (by omega),← cell_of_row _ _ _ _ _ (0,0) hcs]
    exact hel i s hx j2 u2 hu2
  ·rw [List.getElem?_set_ne hii] at hi2
   have hj2:j2 < 4:=(List.getElem?_eq_some_iff.1 hu2).1
   rw [Array.getElem?_setIfInBounds_ne (by omega),← cell_of_row _ _ _ _ _ (0,0) hcs]
   exact hel i2 x hi2 j2 u2 hu2
 ·by_cases hbb:b2=b
  ·subst hbb;exact ⟨_,_,hW⟩
  ·obtain ⟨cs2,t2,h2⟩:=hw b2 hb2
   exact ⟨cs2,t2,by rw [Below.heap_setCell] <;> first | exact h2 | simpa using hbb⟩
def RpOn (W:World) (vc vs:Value) (x:Plan) (fp:List Nat):Prop:=∃ (zs:List (Carton×Value)) (f1 f2:List Nat),fp=f1 ++ f2∧(∀ b∈f1,b∈f2→False)∧zs.map (·.1)=x.cartons∧ROn (fz hdCarton) 3 W vc zs f1∧(∀ z∈zs,ROn cI 1 W z.2 z.1.units f1)∧SOn W vs x.spots f2
theorem RpOn.open {W:World} {vc vs:Value} {x:Plan} {fp:List Nat} (h:RpOn W vc vs x fp):∃ zs:List (Carton×Value),zs.map (·.1)=x.cartons∧ROn (fz hdCarton) 3 W vc zs fp∧(∀ z∈zs,ROn cI 1 W z.2 z.1.units fp)∧ROn Spot.cells 4 W vs x.spots fp:=by
 obtain ⟨zs,f1,f2,rfl,_,h1,h2,h3,h4⟩:=h
 exact ⟨zs,h1,h2.wide (by simp +contextual),fun z hz=>(h3 z hz).wide (by simp +contextual),h4.1.wide (by simp +contextual)⟩
abbrev fRp (vc vs:Value) (x:Plan) (fp:List Nat):Fact:=⟨fun W=>RpOn W vc vs x fp,fp⟩
theorem fRp_ok (vc vs:Value) (x:Plan) (fp:List Nat):(fRp vc vs x fp).ok:=fun _ _ ⟨zs,f1,f2,h0,hd,h1,h2,h3,h4⟩ _ hk=>⟨zs,f1,f2,h0,hd,h1,h2.keep (fun b hb=>hk b (by rw [h0];simp [hb])),fun z hz=>(h3 z hz).keep (fun b hb=>hk b (by rw [h0];simp [hb])),h4.keep (fun b hb=>hk b (by rw [h0];simp [hb]))⟩
section
variable {w W:World} {L l:List Fact} {B:Nat} {vc vs:Value} {zs:List (Carton×Value)} {SP:List Spot} {f1 f2 f3 fp:List Nat} {x:Plan}
theorem Inn.on {W:World} (h:Inn Carton.units W B zs f2):∀ z∈zs,ROn cI 1 W z.2 z.1.units f2:=fun z hz=>by
 obtain ⟨k,hk⟩:=List.getElem?_of_mem hz
 obtain ⟨g1,f,g2,rfl,_,h2,_⟩:=Inn.at h hk
 exact (ROn.of h2 (fun _=>rfl)).wide (by simp +contextual)
theorem RpOn.mk (h1:OF (fz hdCarton) 78 3 W B vc zs f1) (h2:Inn Carton.units W B zs f2) (h3:OF Spot.cells 72 4 W B vs SP f3) (hd:∀ b∈f1 ++ f2,b∈f3→False):RpOn W vc vs ⟨zs.map (·.1),SP⟩ (f1 ++ f2 ++ f3) :=
 ⟨zs,f1 ++ f2,f3,rfl,hd,rfl,(ROn.of h1 (fun _=>rfl)).wide (by simp +contextual),fun z hz=>(h2.on z hz).wide (by simp +contextual),SOn.of h3⟩
theorem Sit.toRp (h:Sit w W (fOF (fz hdCarton) 78 3 B vc zs f1::fInn Carton.units B zs f2::fOF Spot.cells 72 4 B vs SP f3::l)):Sit w W (fRp vc vs ⟨zs.map (·.1),SP⟩ (f1 ++ f2 ++ f3)::l):=by
 have hap:=h.apart
 refine Sit.step (l1:=[_,_,_]) (fp:=[]) h (Tch.refl _ _) (by simp) [fRp vc vs ⟨zs.map (·.1),SP⟩ (f1 ++ f2 ++ f3)] ?_ ?_ ?_ (by simp)
 ·intro p hp b hb
  simp only [List.mem_cons,List.not_mem_nil,or_false] at hp
  subst hp
  simp only [List.mem_append] at hb
  rcases hb with (hb | hb) | hb
  ·exact .inl ⟨_,.head _,hb⟩
  ·exact .inl ⟨_,.tail _ (.head _),hb⟩
  ·exact .inl ⟨_,.tail _ (.tail _ (.head _)),hb⟩
 ·intro p hp
  simp only [List.mem_cons,List.not_mem_nil,or_false] at hp
  subst hp
  exact fRp_ok _ _ _ _
 ·intro p hp
  simp only [List.mem_cons,List.not_mem_nil,or_false] at hp
  subst hp
  refine RpOn.mk (h.list (.head _)) (h.inns (.tail _ (.head _))) (h.list (.tail _ (.tail _ (.head _)))) fun b hb hb3=>?_
  rcases List.mem_append.1 hb with hb | hb
  ·exact (List.pairwise_cons.1 hap).1 _ (.tail _ (.head _)) b hb hb3
  ·exact (List.pairwise_cons.1 (List.pairwise_cons.1 hap).2).1 _ (.head _) b hb hb3
theorem Sit.rp (h:Sit w W L) (hm:fRp vc vs x fp∈L) (hc:x.cartons.length≤16777216) (hu:∀ c∈x.cartons,c.units.length≤16777216) (hs:x.spots.length≤16777216):RPlan 16777216 W W.heap.size (.agg #[vc,vs]) x:=by
 obtain ⟨zs,h1,h2,h3,h4⟩:=RpOn.open (h.on _ hm)
 have hlt:∀ b∈fp,b < W.heap.size:=fun b hb=>(h.lt _ hm b hb).2
 have hzl:zs.length=x.cartons.length:=map_fst_len h1
 have hr:=h2.read (bd:=16777216) (B:=W.heap.size) (fun _=>rfl) (by omega) hlt
 refine ⟨vc,vs,rfl,?_,h4.read (fun _=>rfl) hs hlt⟩
 obtain ⟨A,c,rfl,hcc,hr⟩:=hr
 refine ⟨A,c,by rw [hzl],by omega,fun hn=>?_⟩
 obtain ⟨b,off,rfl,hb,hel⟩:=hr (by omega)
 refine ⟨b,off,rfl,hb,fun i y hy=>?_⟩
 rw [← h1,List.getElem?_map] at hy
 cases hz:zs[i]? with
 |none=>rw [hz] at hy;simp at hy
 |some z =>
  rw [hz] at hy
  simp at hy
  subst hy
  obtain ⟨cs,e1,e2,e3⟩:=hel i z hz
  have hm2:=List.mem_of_getElem? hz
  have hin:=(h3 z hm2).read (bd:=16777216) (B:=W.heap.size) (fun _=>rfl) (hu z.1 (by rw [← h1];exact List.mem_map_of_mem hm2)) hlt
  refine ⟨cs,e1,⟨z.2,?_,hin⟩,e3⟩
  rw [e2]
  show hdCarton z.1 (sv z.2)=_
  obtain ⟨A',c',hv,_⟩:=hin
  rw [hv]
  rfl
theorem Sit.dropS {g o n c:Nat} (h:Sit w W (fRp vc (.slice (some ⟨g,o,none⟩) n c) x fp::l)) (hn:0 < x.spots.length):Sit w W (fRp vc (.slice (some ⟨g,o + 4,none⟩) (n - 1) (c - 1)) ⟨x.cartons,x.spots.drop 1⟩ fp::l):=by
 obtain ⟨zs,f1,f2,h0,hd,h1,h2,h3,h4⟩:=h.on _ (.head _)
 exact h.grow (Tch.refl _ _) (fRp vc (.slice (some ⟨g,o + 4,none⟩) (n - 1) (c - 1)) ⟨x.cartons,x.spots.drop 1⟩ fp) (fun _ hb=>.inl hb) (fRp_ok _ _ _ _) ⟨zs,f1,f2,h0,hd,h1,h2,h3,h4.1.drop1 hn,h4.2⟩
theorem Sit.nilS {A:Option Addr} (h:Sit w W (fRp vc vs x fp::l)):Sit w W (fRp vc (.slice A 0 0) ⟨x.cartons,[]⟩ fp::l):=by
 obtain ⟨zs,f1,f2,h0,hd,h1,h2,h3,h4⟩:=h.on _ (.head _)
 exact h.grow (Tch.refl _ _) (fRp vc (.slice A 0 0) ⟨x.cartons,[]⟩ fp) (fun _ hb=>.inl hb) (fRp_ok _ _ _ _) ⟨zs,f1,f2,h0,hd,h1,h2,h3,⟨A,0,rfl,Nat.le_refl _,fun h=>absurd h (by simp)⟩,h4.2⟩
theorem Sit.putS {i j b off n c:Nat} {s s':Spot} {u:Value} (h:Sit w W (fRp vc (.slice (some ⟨b,off,none⟩) n c) x fp::l)) (hx:x.spots[i]? = some s) (hj:j < 4) (hy:s.cells.set j u=s'.cells):Sit w (W.setCell ⟨b,off + i * 4 + j,none⟩ u) (fRp vc (.slice (some ⟨b,off,none⟩) n c) ⟨x.cartons,x.spots.set i s'⟩ fp::l):=by
 obtain ⟨zs,f1,f2,h0,hd,h1,h2,h3,h4⟩:=h.on _ (.head _)
 obtain ⟨h5,hb⟩:=h4.put hx hj hy
 have hk:∀ b'∈f1,(W.setCell ⟨b,off + i * 4 + j,none⟩ u).heap[b']? = W.heap[b']?:=fun b' hb'=>Below.heap_setCell _ _ _ _ (fun e=>hd b' hb' (by have e':b'=b:=e;rw [e'];exact hb))
 refine h.grow (Tch.setW (us:=[u]) (o:=off + i * 4 + j) (by rw [h0];simp [hb]) W (Tch.refl _ _)) (fRp vc (.slice (some ⟨b,off,none⟩) n c) ⟨x.cartons,x.spots.set i s'⟩ fp) (fun _ hb=>.inl hb) (fRp_ok _ _ _ _) ⟨zs,f1,f2,h0,hd,h1,h2.keep hk,fun z hz=>(h3 z hz).keep hk,h5⟩
end
theorem perm_in (c b h n s:Fact) {l:List Fact} : (c::b::h::n::s::l).Perm (h::n::s::b::c::l):=by
 refine (List.perm_middle (l₁:=[c,b])).trans (List.Perm.cons h ?_)
 refine (List.perm_middle (l₁:=[c,b])).trans (List.Perm.cons n ?_)
 exact (List.perm_middle (l₁:=[c,b])).trans (List.Perm.cons s (List.Perm.swap _ _ _))
theorem perm_out (p b5 c b4 q t3 t2:Fact) {l:List Fact} : (p::b5::c::b4::q::t3::t2::l).Perm (t2::t3::q::p::b5::c::b4::l):=by
 refine (List.perm_middle (l₁:=[p,b5,c,b4,q,t3])).trans (List.Perm.cons t2 ?_)
 refine (List.perm_middle (l₁:=[p,b5,c,b4,q])).trans (List.Perm.cons t3 ?_)
 exact (List.perm_middle (l₁:=[p,b5,c,b4])).trans (List.Perm.refl _)
structure PlanSmall (x:Plan):Prop where
 cartons:x.cartons.length≤100
 units:∀ c∈x.cartons,c.units.length≤100
 spots:x.spots.length≤100
section
variable {w W:World} {l:List Fact} {B g n c i j e:Nat} {zs:List (Carton×Value)} {f1 f2:List Nat} {a a':Carton} {u u':Value} {us:List Value}
theorem Sit.headSet (h:Sit w W (fOF (fz hdCarton) e 3 B (.slice (some ⟨g,0,none⟩) n c) zs f1::fInn Carton.units B zs f2::l)) (hz:zs[i]? = some (a,u)) (hu:a'.units=a.units) (hl:j + us.length≤3) (hy:setL (fz hdCarton (a,u)) j us=fz hdCarton (a',u)) :
  ∃ f2',Sit w (setW W g (i * 3 + j) us) (fOF (fz hdCarton) e 3 B (.slice (some ⟨g,0,none⟩) n c) (zs.set i (a',u)) f1::fInn Carton.units B (zs.set i (a',u)) f2'::l):=by
 have h1:=h.put (fun _=>rfl) hz hl hy
 obtain ⟨f,f3,f4,h2⟩:=h1.rot2.innOut hz
 obtain ⟨f2',h3⟩:=h2.innIn (a:=a') (List.getElem?_eq_some_iff.1 hz).1 hu
 exact ⟨f2',h3.rot2⟩
theorem Sit.headNil (h:Sit w W (fOF (fz hdCarton) e 3 B (.slice (some ⟨g,0,none⟩) n c) zs f1::fInn Carton.units B zs f2::l)) (hz:zs[i]? = some (a,u)) :
  ∃ f2',Sit w (setW W g (i * 3 + 2) [.slice none 0 0]) (fOF (fz hdCarton) e 3 B (.slice (some ⟨g,0,none⟩) n c) (zs.set i (⟨a.type,a.group,[]⟩,.slice none 0 0)) f1::fInn Carton.units B (zs.set i (⟨a.type,a.group,[]⟩,.slice none 0 0)) f2'::l):=by
 have h1:=h.put (j:=2) (us:=[.slice none 0 0]) (y:=(⟨a.type,a.group,[]⟩,.slice none 0 0)) (fun _=>rfl) hz (by simp) rfl
 obtain ⟨f,f3,f4,h2⟩:=h1.rot2.innOut hz
 obtain ⟨f2',h3⟩:=(h2.drop.addNil (f:=cI) (e:=3) (K:=1) B).innIn (a:=⟨a.type,a.group,[]⟩) (List.getElem?_eq_some_iff.1 hz).1 rfl
 exact ⟨f2',h3.rot2⟩
end
theorem PlanSmall.setS {x:Plan} (h:PlanSmall x) (i:Nat) (s:Spot):PlanSmall ⟨x.cartons,x.spots.set i s⟩:=⟨h.cartons,h.units,by have:=h.spots;simpa using this⟩
theorem PlanSmall.setC {XS:List Spot} {zs:List (Carton×Value)} (h:PlanSmall ⟨zs.map (·.1),XS⟩) (i:Nat) (z:Carton×Value) (hz:z.1.units.length≤100):PlanSmall ⟨(zs.set i z).map (·.1),XS⟩:=⟨by have:=h.cartons;simpa using this,fun c hc=>by
 rw [List.map_set] at hc
 rcases List.mem_or_eq_of_mem_set hc with hc | rfl
 ·exact h.units c hc
 ·exact hz,h.spots⟩
theorem fOF_base {α:Type} {f:α→List Value} {e K:Nat} {w W:World} {l:List Fact} {v:Value} {xs:List α} {fp:List Nat} {B B':Nat} (h:Sit w W (fOF f e K B v xs fp::l)) (hB:B'≤B):Sit w W (fOF f e K B' v xs fp::l) :=
 h.grow (Tch.refl _ _) (fOF f e K B' v xs fp) (fun _ hb=>.inl hb) (fOF_ok _ _ _ _ _ _ _) ((h.list (.head _)).base hB)
theorem PlanSmall.more {XS:List Spot} {zs:List (Carton×Value)} (h:PlanSmall ⟨zs.map (·.1),XS⟩) (hl:zs.length≤48) (hs:XS.length≤48) (z:Carton×Value) (s:Spot) (hz:z.1.units.length≤100):PlanSmall ⟨(zs ++ [z]).map (·.1),XS ++ [s]⟩:=⟨by simp;omega,fun c hc=>by
 simp only [List.map_append,List.mem_append,List.map_cons,List.map_nil,List.mem_singleton] at hc
 rcases hc with hc | rfl
 ·exact h.units c hc
 ·exact hz,by simp;omega⟩
theorem sapp_hCarton {ops:Array Oper} {o:Oper} {a:Act} {K:Act→World→Prop} {Q:Exit→Act→World→Prop} {E:Prop} {w:World} (s x:Operand) (hgd:o.guard=none)
  (ho:o.op=.call { callee:=.builtin .append,args:=#[s,x],argTypes:=#[43,43] }) {base:Nat} {v:Value} {zs:List (Carton×Value)} {fp:List Nat} (y:Carton×Value) {news:Array Value} {N:Nat} (hs:a.eval s=v)
  (hx:a.eval x=.slice (some ⟨N,0,none⟩) 1 1) (hN:w.heap[N]? = some (.cells news 78 (0,0))) (hy:news=(fz hdCarton y).toArray) (hown:OF (fz hdCarton) 78 3 w base v zs fp) (hl:zs.length < 16777216) (hbase:base≤w.heap.size)
  (h:∀ v' w',AppOF (fz hdCarton) 78 3 w base (zs ++ [y]) fp v' w'→K (a.put o.dst v') w'):if Region.wanted o (yielded ops a.tmps)=true then Oper.wp Tryz.prog o a w K Q else E:=by
 have hw:Region.wanted o (yielded ops a.tmps)=true:=by simp [Region.wanted,hgd]
 rw [if_pos hw]
 obtain ⟨i0,hi,hz0,hz1,hz2⟩:=info_parts info_hCarton
 have hr:=RL_one1 (f:=fz hdCarton) (K:=3) hN hy rfl (Nat.lt_succ_self N)
 exact wp_appAll w s x 43 ho base 78 i0 _ 3 40 Tryz.underlying43 hi hz0 hz1 hz2 rfl (by omega) v _ _ hs hown.1 1 _ (fz hdCarton) _ 1 1 [y] hx hr rfl (fun _=>rfl) one_hCarton (by unfold maxLen;omega) (by omega) hbase
  (fun v' w' h1 h2 h3=>h v' w' (OF.app_of_row (by rw [List.flatMap_append];exact h1) (by simp) h2 h3 hown.2))
set_option maxRecDepth 100000 in
set_option maxHeartbeats 40000000 in
theorem l13Draw_any (v:Value) (xs:List Int) (w W:World) (L:List Fact) (hS:Sit w W L) (hx:RBytes w w.heap.size v xs):Calls Tryz.prog 120 #[v] W fun e w'=>∃ u r fp vc vs x fq,e=.returned (.tuple #[u,.agg #[vc,vs]])∧Sit w w' (fRq u r fp::fRp vc vs x fq::L)∧r.bulk≤80∧PlanSmall x:=by
 have HB:=Lib.hid hx
 have SN:=Lib.hid ((hS.alloc cZ 41).alloc #[.slice none 0 0,.slice none 0 0] 46)
 simp only [World.size_alloc] at SN
 clear hS hx
 go_enter Tryz.func120,Tryz.ntmps120
 go_upto_region 1 with fail
 generalize hW1:(W.alloc (.cells cZ 41)).alloc (.cells #[.slice none 0 0,.slice none 0 0] 46)=W1 at SN ⊢
 clear hW1
 go_wp2_with fail
 refine (DrawClass_any v xs _ _ _ SN.out HB.out).mono ?_
 rintro e w2 ⟨u,r,fp,rfl,SN1,hbk⟩
 obtain ⟨vp,vt,vi,rfl,⟨A1,c1,rfl,_⟩,⟨A2,c2,rfl,_⟩,⟨A3,c3,rfl,_⟩⟩:=SN1.on _ (.head _)
 have hbt:=SN1.boxlt (.tail _ (.head _))
 obtain ⟨b4,hb4⟩:∃ b,w2.heap.size=b:=⟨_,rfl⟩
 rw [hb4] at hbt
 have SQ:=Lib.hid (SN1.alloc (cR r A1 c1 A2 c2 A3 c3) 41)
 rw [hb4] at SQ
 clear SN SN1
 have SN:=SQ
 clear SQ
 go_upto_region 2 with fail
 generalize w2.alloc (.cells (cR r A1 c1 A2 c2 A3 c3) 41)=W3 at SN ⊢
 clear hb4
 have k4:=SN.out.box (.head _)
 go_wp2_with fail
 refine (sPlanOf_any _ r _ (SN.out.rq (.tail _ (.head _)) (by omega))).mono ?_
 rintro e3 w3 ⟨vc,vs,zs,f1,f2,f3,rfl,hz,hS3⟩
 obtain ⟨x,hxp⟩:∃ x,planOf r=x:=⟨_,rfl⟩
 have hsm:x.1.spots.length=x.1.cartons.length∧x.1.cartons.length≤48∧∀ c∈x.1.cartons,c.units.length≤12:=by
  subst hxp
  cases hs:soundR r
  ·rw [plan_unsound hs];simp
  ·refine ⟨plan_spots hs,?_⟩
   have:=cartons_len hs
   rw [plan_sound hs]
   exact this
 rw [hxp] at hz hS3 ⊢
 clear hxp
 obtain ⟨⟨XC,XS⟩,xb⟩:=x
 dsimp only at hz hS3 hsm
 have HSM:=Lib.hid hsm
 have HZ:=Lib.hid hz
 clear hsm hz
 obtain ⟨PC,cc,rfl,_⟩:=(hS3.list (.head _)).form
 obtain ⟨PS,cs,rfl,_⟩:=(hS3.list (.tail _ (.tail _ (.head _)))).form
 have SQ:=Lib.hid ((SN.out.join hS3).alloc #[.slice PC zs.length cc,.slice PS XS.length cs] 46)
 have hb43:W.heap.size + 1 < b4:=hbt
 have hb54:b4 < w3.heap.size:=(SN.out.join hS3).boxlt (.tail _ (.tail _ (.tail _ (.head _))))
 clear SN k4 hS3
 have SN:=SQ
 clear SQ
 obtain ⟨B0,hB0⟩:∃ b,W3.heap.size=b:=⟨_,rfl⟩
 obtain ⟨b5,hb5⟩:∃ b,w3.heap.size=b:=⟨_,rfl⟩
 rw [hB0,hb5] at SN
 rw [hb5] at hb54
 have hn1 : ¬ (b4=W.heap.size):=by omega
 have hn2 : ¬ (b4=W.heap.size + 1):=by omega
 have hn3 : ¬ (b5=W.heap.size):=by omega
 have hn4 : ¬ (b5=W.heap.size + 1):=by omega
 have hn5 : ¬ (W.heap.size=b4):=by omega
 have hn6 : ¬ (W.heap.size + 1=b4):=by omega
 have hn7 : ¬ (W.heap.size=b5):=by omega
 have hn8 : ¬ (W.heap.size + 1=b5):=by omega
 go_upto_region 3 with fail
 generalize w3.alloc (.cells #[.slice PC zs.length cc,.slice PS XS.length cs] 46)=W5 at SN ⊢
 clear hb5 hB0
 go_wp2_with fail
 refine (new_sit SN.out HB.out).mono ?_
 rintro e1 w6 ⟨g,rfl,SN1⟩
 have SN2:=Lib.hid SN1
 clear SN SN1
 have SN:Hid (Sit w w6 (fOF (fz hdCarton) 78 3 B0 (.slice PC zs.length cc) zs f1::fInn Carton.units B0 zs f2::fOF Spot.cells 72 4 B0 (.slice PS XS.length cs) XS f3::fBox b5 #[.slice PC zs.length cc,.slice PS XS.length cs] 46::fCur g v xs.length::fBox b4 (cR r A1 c1 A2 c2 A3 c3) 41::fRq (.agg (cR r A1 c1 A2 c2 A3 c3)) r fp::fBox (W.heap.size + 1) #[.slice none 0 0,.slice none 0 0] 46::fBox W.heap.size cZ 41::L)):=Lib.hid (SN2.out.perm (perm_in _ _ _ _ _))
 clear SN2
 have HXN:=Lib.hid (show XC.length=zs.length by rw [← HZ.out,List.length_map])
 have HXS:=Lib.hid (show XS.length=zs.length by rw [← HXN.out];exact HSM.out.1)
 have hz48:zs.length≤48:=by rw [← HXN.out];exact HSM.out.2.1
 have HPS:=Lib.hid (show PlanSmall ⟨zs.map (·.1),XS⟩ from ⟨by simp;omega,fun c hc=>by rw [HZ.out] at hc;have:=HSM.out.2.2 c hc;omega,by have:=HXS.out;show XS.length≤100;omega⟩)
 by_cases h0:zs.length=0
 ·have SQ:=Lib.hid SN.out.toRp
  clear SN
  have SN:=SQ
  clear SQ
  rw [h0] at SN
  have k50:=SN.out.box (.tail _ (.head _)) 0
  simp at k50
  have k4:=SN.out.box (g:=b4) (cs:=(cR r A1 c1 A2 c2 A3 c3)) (t:=41) mq
  have k5:=SN.out.box (g:=b5) (cs:=#[.slice PC 0 cc,.slice PS XS.length cs]) (t:=46) mq
  have SF:=Lib.hid ((SN.out.perm (perm_out _ _ _ _ _ _ _)).sub (.cons_cons _ (.cons_cons _ (.cons_cons _ (.cons_cons _ (.cons _ (.cons _ (.cons _ (List.Sublist.refl _)))))))))
  have k2:=SF.out.box (.head _)
  have f2:=SF.out.free (.head _)
  have k3:=SF.out.box (.tail _ (.head _))
  have f3:=SF.out.free (.tail _ (.head _))
  have m40:=k4 0
  have m41:=k4 1
  have m42:=k4 2
  have m43:=k4 3
  have m44:=k4 4
  have m45:=k4 5
  have m46:=k4 6
  have m47:=k4 7
  have m48:=k4 8
  have m49:=k4 9
  have m50:=k5 0
  have m51:=k5 1
  simp at m40 m41 m42 m43 m44 m45 m46 m47 m48 m49 m50 m51
  clear k4 k5
  go_wp2_with fail
  refine regu (S:=(fun W'=>(cS10 (W') (b4) (r) (.slice A1 r.pairs.length c1) (.slice A2 r.types.length c2) (.slice A3 r.items.length c3))∧W'.cell? ⟨b5,0,none⟩=some (.slice PC 0 cc)∧W'.cell? ⟨b5,1,none⟩=some (.slice PS XS.length cs))) (by kernel_rfl) (fun _ _ _ _ _=>id) ?_ fun hHeld=>?_
  ·go_keep
  refine tku (b:=?_) [0,1] (by kernel_rfl) hHeld ?_ ?_
  rotate_left
  ·repeat first
   |exact .nil
   |refine .yes (v:=?_) rfl (by rfl) ?_ ?_
    rotate_left
    ·intro w9 hSw;(try dsimp only at hSw);go_simp;(try with_reducible rfl)
    (try simp only [aP,aZ,aS,aG,aH,aI])
  refine onu 2 rfl (by kernel_rfl) fun K hK=>?_
  go_simp
  refine hK.out _ _ ?_ (fun hHeld=>?_)
  ·go_keep
  clear hK K
  (try simp only [aP,aZ,aS,aG,aH,aI])
  refine lsu 3 rfl (by kernel_rfl) fun K hK=>?_
  go_simp
  refine hK.out _ _ ?_
  clear hK K
  (try simp only [aP,aZ,aS,aG,aH,aI])
  go_wp2_with fail
  refine bodyPost_ret (v:=.tuple #[.agg (cR r A1 c1 A2 c2 A3 c3),.agg #[.slice PC 0 cc,.slice PS XS.length cs]]) (by simp [results,Tryz.results120,go_sem,k2,f2,k3,f3]) rfl ?_
  exact ⟨_,r,fp,_,_,_,_,rfl,((((SF.out.overL [.int .i64 r.way,.int .i64 r.pallet.w,.int .i64 r.pallet.d,.int .i64 r.pallet.h,.int .i64 r.pallet.gram,.int .i64 r.classes,.slice A1 r.pairs.length c1,.slice A2 r.types.length c2,.int .i64 r.master,.slice A3 r.items.length c3] 0).rot2.overL [.slice PC 0 cc,.slice PS XS.length cs] 0).drop.drop).drew),hbk,HPS.out⟩
 ·have hzi : ¬ ((zs.length:Int)=0):=by omega
  have k50:=SN.out.box (g:=b5) (cs:=#[.slice PC zs.length cc,.slice PS XS.length cs]) (t:=46) (.tail _ (.tail _ (.tail _ (.head _)))) 0
  simp at k50
  go_wp2_with fail
  refine (below_sit SN.out HB.out (.tail _ (.tail _ (.tail _ (.tail _ (.head _))))) _ (by omega)).mono ?_
  rintro e8 w8 ⟨ii,rfl,hii,SN1,T1⟩
  have SN2:=Lib.hid SN1
  clear SN SN1 T1 k50
  have SN:=SN2
  clear SN2
  obtain ⟨i,rfl⟩:∃ i:Nat,ii=i:=⟨ii.toNat,by omega⟩
  have hi:i < zs.length:=by omega
  go_wp2_with fail
  refine (below_sit SN.out HB.out (.tail _ (.tail _ (.tail _ (.tail _ (.head _))))) _ (by first | decide | omega)).mono ?_
  rintro e9 w9 ⟨kk,rfl,hkk,SN1,T1⟩
  have SN2:=Lib.hid SN1
  clear SN SN1 T1
  have SN:=SN2
  clear SN2
  obtain ⟨⟨ca,ua⟩,hzi2⟩:∃ z,zs[i]? = some z:=⟨_,List.getElem?_eq_getElem hi⟩
  obtain ⟨gc,rfl⟩:=head_ptr (SN.out.list (.head _)) hzi2
  obtain ⟨U,cu,rfl⟩:=inn_form (SN.out.inns (.tail _ (.head _))) hzi2
  obtain ⟨sp,hsi⟩:∃ z,XS[i]? = some z:=⟨_,List.getElem?_eq_getElem (by rw [HXS.out];exact hi)⟩
  obtain ⟨gs,rfl⟩:=head_ptr (SN.out.list (.tail _ (.tail _ (.head _)))) hsi
  have HZI:=Lib.hid hzi2
  have HSI:=Lib.hid hsi
  have hii:(i:Int) < (zs.length:Int):=by omega
  have hij:(i:Int) < (XS.length:Int):=by have:=HXS.out;omega
  have hul:ca.units.length≤12:=HSM.out.2.2 ca (by rw [← HZ.out];exact List.mem_map_of_mem (f:=Prod.fst) (List.mem_of_getElem? hzi2))
  clear hzi2 hsi
  go_upto_block 0 with fail
  go_cut [] (fun X=>∃ (x:Plan) (vc vs:Value) (fq:List Nat),Hid (Sit w X (fRp vc vs x fq::fBox b5 #[vc,vs] 46::fCur g v xs.length::fBox b4 (cR r A1 c1 A2 c2 A3 c3) 41::fRq (.agg (cR r A1 c1 A2 c2 A3 c3)) r fp::fBox (W.heap.size + 1) #[.slice none 0 0,.slice none 0 0] 46::fBox W.heap.size cZ 41::L))∧PlanSmall x)
  case first =>
   have k5:=SN.out.box (g:=b5) (cs:=#[(.slice (some ⟨gc,0,none⟩) zs.length cc),(.slice (some ⟨gs,0,none⟩) XS.length cs)]) (t:=46) (.tail _ (.tail _ (.tail _ (.head _))));have hcc:=(SN.out.list (.head _)).cells (fun _=>rfl) HZI.out;have hcc0:=hcc 0 _ rfl;have hcc1:=hcc 1 _ rfl;have hcc2:=hcc 2 _ rfl;have hfc:=fun o=>(SN.out.list (.head _)).free o;have hcs:=(SN.out.list (.tail _ (.tail _ (.head _)))).cells (fun _=>rfl) HSI.out;have hcs0:=hcs 0 _ rfl;have hcs1:=hcs 1 _ rfl;have hcs3:=hcs 3 _ rfl;have hfs:=fun o=>(SN.out.list (.tail _ (.tail _ (.head _)))).free o;simp only [Nat.add_zero] at hcc0 hcs0;clear hcc hcs
   by_cases h0:kk=0
   ·subst h0
    go_wp2_with fail
    refine regu (S:=(fun W'=>W'.cell? ⟨b5,1,none⟩=some (.slice (some ⟨gs,0,none⟩) XS.length cs)∧W'.cell? ⟨gs,i * 4 + 1,none⟩=some (.int .i64 sp.x))) (by kernel_rfl) (fun _ _ _ _ _=>id) ?_ fun hHeld=>?_
    ·(first | exact ⟨k5 1,hcs1⟩ | go_keep)
    refine tku (b:=?_) [0,1,2,3,4,5,6,7,8,9,10,11] (by kernel_rfl) hHeld ?_ ?_
    rotate_left
    ·repeat first
     |exact .nil
     |refine .yes (v:=?_) rfl (by rfl) ?_ ?_
      rotate_left
      ·intro w9 hSw;(try dsimp only at hSw);go_simp;(try with_reducible rfl)
      (try simp only [aP,aZ,aS,aG,aH,aI])
    refine lsu 12 rfl (by kernel_rfl) fun K hK=>?_
    go_simp
    refine hK.out _ _ ?_
    clear hK K
    (try simp only [aP,aZ,aS,aG,aH,aI])
    go_wp2_with fail
    go_meet
    exact ⟨_,_,_,_,Lib.hid (Sit.drew ((SN.out.rot3.put (fun _=>rfl) HSI.out (j:=1) (us:=[.int .i64 (IntKind.i64.wrap (sp.x + 1))]) (y:=⟨sp.pallet,IntKind.i64.wrap (sp.x + 1),sp.y,sp.z⟩) (by simp) rfl).ror3.toRp)),HPS.out.setS _ _⟩
   by_cases h1:kk=1
   ·subst h1
    go_wp2_with fail
    refine regu (S:=(fun W'=>W'.cell? ⟨b5,1,none⟩=some (.slice (some ⟨gs,0,none⟩) XS.length cs))) (by kernel_rfl) (fun _ _ _ _ _=>id) ?_ fun hHeld=>?_
    ·(first | exact k5 1 | go_keep)
    refine tku (b:=?_) [0,1,2,3] (by kernel_rfl) hHeld ?_ ?_
    rotate_left
    ·repeat first
     |exact .nil
     |refine .yes (v:=?_) rfl (by rfl) ?_ ?_
      rotate_left
      ·intro w9 hSw;(try dsimp only at hSw);go_simp;(try with_reducible rfl)
      (try simp only [aP,aZ,aS,aG,aH,aI])
    refine onu 4 rfl (by kernel_rfl) fun K hK=>?_
    go_simp
    ((go_at_call 133;refine Sit.cs SN.out fun SN0=>?_;(try simp only [World.size_alloc,World.size_drew] at SN0);refine (below_sit SN0 HB.out (by repeat first | with_reducible exact List.mem_cons_self | with_reducible exact .head _ | refine .tail _ ?_) _ (by first | decide | omega)).mono ?_;rintro e w1 ⟨y,rfl,hy,SN1,T1⟩;have SN2:=Lib.hid SN1;clear SN SN0 SN1 T1;have SN:=SN2;clear SN2;have k5:=SN.out.box (g:=b5) (cs:=#[(.slice (some ⟨gc,0,none⟩) zs.length cc),(.slice (some ⟨gs,0,none⟩) XS.length cs)]) (t:=46) (.tail _ (.tail _ (.tail _ (.head _))));have hcc:=(SN.out.list (.head _)).cells (fun _=>rfl) HZI.out;have hcc0:=hcc 0 _ rfl;have hcc1:=hcc 1 _ rfl;have hcc2:=hcc 2 _ rfl;have hfc:=fun o=>(SN.out.list (.head _)).free o;have hcs:=(SN.out.list (.tail _ (.tail _ (.head _)))).cells (fun _=>rfl) HSI.out;have hcs0:=hcs 0 _ rfl;have hcs1:=hcs 1 _ rfl;have hcs3:=hcs 3 _ rfl;have hfs:=fun o=>(SN.out.list (.tail _ (.tail _ (.head _)))).free o;simp only [Nat.add_zero] at hcc0 hcs0;clear hcc hcs))
    refine hK.out _ _ ?_ (fun hHeld=>?_)
    ·(first | exact k5 1 | go_keep)
    clear hK K
    (try simp only [aP,aZ,aS,aG,aH,aI])
    refine tku (b:=?_) [5,6] (by kernel_rfl) hHeld ?_ ?_
    rotate_left
    ·repeat first
     |exact .nil
     |refine .yes (v:=?_) rfl (by rfl) ?_ ?_
      rotate_left
      ·intro w9 hSw;(try dsimp only at hSw);go_simp;(try with_reducible rfl)
      (try simp only [aP,aZ,aS,aG,aH,aI])
    refine lsu 7 rfl (by kernel_rfl) fun K hK=>?_
    go_simp
    refine hK.out _ _ ?_
    clear hK K
    (try simp only [aP,aZ,aS,aG,aH,aI])
    go_wp2_with fail
    go_meet
    exact ⟨_,_,_,_,Lib.hid ((SN.out.rot3.put (fun _=>rfl) HSI.out (j:=0) (us:=[.int .i64 y]) (y:=⟨y,sp.x,sp.y,sp.z⟩) (by simp) rfl).ror3.toRp),HPS.out.setS _ _⟩
   by_cases h2:kk=2
   ·subst h2
    go_wp2_with fail
    refine regu (S:=(fun W'=>W'.cell? ⟨b5,0,none⟩=some (.slice (some ⟨gc,0,none⟩) zs.length cc))) (by kernel_rfl) (fun _ _ _ _ _=>id) ?_ fun hHeld=>?_
    ·(first | exact k5 0 | go_keep)
    refine tku (b:=?_) [0,1,2,3] (by kernel_rfl) hHeld ?_ ?_
    rotate_left
    ·repeat first
     |exact .nil
     |refine .yes (v:=?_) rfl (by rfl) ?_ ?_
      rotate_left
      ·intro w9 hSw;(try dsimp only at hSw);go_simp;(try with_reducible rfl)
      (try simp only [aP,aZ,aS,aG,aH,aI])
    refine onu 4 rfl (by kernel_rfl) fun K hK=>?_
    go_simp
    refine hK.out _ _ ?_ (fun hHeld=>?_)
    ·(first | exact k5 0 | go_keep)
    clear hK K
    (try simp only [aP,aZ,aS,aG,aH,aI])
    refine onu 5 rfl (by kernel_rfl) fun K hK=>?_
    go_simp
    ((go_at_call 156;refine Sit.cs SN.out fun SN0=>?_;(try simp only [World.size_alloc,World.size_drew] at SN0);refine (pick_sit SN0 HB.out (by repeat first | with_reducible exact List.mem_cons_self | with_reducible exact .head _ | refine .tail _ ?_) (.head _) _ _ (by rfl) (by decide) (by decide) (by simp)).mono ?_;rintro e w1 ⟨y,rfl,SN1,T1⟩;have SN2:=Lib.hid SN1.drop;clear SN SN0 SN1 T1;have SN:=SN2;clear SN2;have k5:=SN.out.box (g:=b5) (cs:=#[(.slice (some ⟨gc,0,none⟩) zs.length cc),(.slice (some ⟨gs,0,none⟩) XS.length cs)]) (t:=46) (.tail _ (.tail _ (.tail _ (.head _))));have hcc:=(SN.out.list (.head _)).cells (fun _=>rfl) HZI.out;have hcc0:=hcc 0 _ rfl;have hcc1:=hcc 1 _ rfl;have hcc2:=hcc 2 _ rfl;have hfc:=fun o=>(SN.out.list (.head _)).free o;have hcs:=(SN.out.list (.tail _ (.tail _ (.head _)))).cells (fun _=>rfl) HSI.out;have hcs0:=hcs 0 _ rfl;have hcs1:=hcs 1 _ rfl;have hcs3:=hcs 3 _ rfl;have hfs:=fun o=>(SN.out.list (.tail _ (.tail _ (.head _)))).free o;simp only [Nat.add_zero] at hcc0 hcs0;clear hcc hcs))
    refine hK.out _ _ ?_ (fun hHeld=>?_)
    ·(first | exact k5 0 | go_keep)
    clear hK K
    (try simp only [aP,aZ,aS,aG,aH,aI])
    refine tku (b:=?_) [6,7] (by kernel_rfl) hHeld ?_ ?_
    rotate_left
    ·repeat first
     |exact .nil
     |refine .yes (v:=?_) rfl (by rfl) ?_ ?_
      rotate_left
      ·intro w9 hSw;(try dsimp only at hSw);go_simp;(try with_reducible rfl)
      (try simp only [aP,aZ,aS,aG,aH,aI])
    refine lsu 8 rfl (by kernel_rfl) fun K hK=>?_
    go_simp
    refine hK.out _ _ ?_
    clear hK K
    (try simp only [aP,aZ,aS,aG,aH,aI])
    go_wp2_with fail
    go_meet
    obtain ⟨fq2,SQ⟩:=SN.out.headSet (j:=0) (us:=[.int .i64 y]) (a':=⟨y,ca.group,ca.units⟩) HZI.out rfl (by simp) rfl
    exact ⟨_,_,_,_,Lib.hid SQ.toRp,HPS.out.setC _ _ (by show ca.units.length≤100;omega)⟩
   by_cases h3:kk=3
   ·subst h3
    obtain ⟨fU,fA,fD,SI⟩:=SN.out.rot2.innOut HZI.out
    have SQ:=Lib.hid SI
    clear SN SI
    have SN:=SQ
    clear SQ
    clear k5 hcc0 hcc1 hcc2 hfc hcs0 hcs1 hcs3 hfs
    have k5:=SN.out.box (g:=b5) (cs:=#[(.slice (some ⟨gc,0,none⟩) zs.length cc),(.slice (some ⟨gs,0,none⟩) XS.length cs)]) (t:=46) (by repeat first | with_reducible exact List.mem_cons_self | with_reducible exact .head _ | refine .tail _ ?_);have hcc:=(SN.out.list (.tail _ (.tail _ (.tail _ (.head _))))).cells (fun _=>rfl) HZI.out;have hcc2:=hcc 2 (.slice U ca.units.length cu) rfl;have hfc:=fun o=>(SN.out.list (.tail _ (.tail _ (.tail _ (.head _))))).free o;clear hcc
    have hzk:zs[i]=(ca,.slice U ca.units.length cu):=(List.getElem?_eq_some_iff.1 HZI.out).2
    have HZK:=Lib.hid hzk
    clear hzk
    go_wp2_with fail
    refine regu (S:=(fun W'=>W'.cell? ⟨b5,0,none⟩=some (.slice (some ⟨gc,0,none⟩) zs.length cc)∧W'.cell? ⟨gc,i * 3 + 2,none⟩=some (.slice U ca.units.length cu))) (by kernel_rfl) (fun _ _ _ _ _=>id) ?_ fun hHeld=>?_
    ·(first | exact ⟨k5 0,hcc2⟩ | go_keep)
    refine tku (b:=?_) [0,1,2,3,4,5,6,7,8,9] (by kernel_rfl) hHeld ?_ ?_
    rotate_left
    ·repeat first
     |exact .nil
     |refine .yes (v:=?_) rfl (by rfl) ?_ ?_
      rotate_left
      ·intro w9 hSw;(try dsimp only at hSw);go_simp;(try with_reducible rfl)
      (try simp only [aP,aZ,aS,aG,aH,aI])
    refine onu 10 rfl (by kernel_rfl) fun K hK=>?_
    go_simp
    ((go_at_call 133;refine Sit.cs SN.out fun SN0=>?_;(try simp only [World.size_alloc,World.size_drew] at SN0);refine (below_sit SN0 HB.out (by repeat first | with_reducible exact List.mem_cons_self | with_reducible exact .head _ | refine .tail _ ?_) _ (by first | decide | omega)).mono ?_;rintro e w1 ⟨y,rfl,hy,SN1,T1⟩;have SN2:=Lib.hid SN1;clear SN SN0 SN1 T1;have SN:=SN2;clear SN2;have k5:=SN.out.box (g:=b5) (cs:=#[(.slice (some ⟨gc,0,none⟩) zs.length cc),(.slice (some ⟨gs,0,none⟩) XS.length cs)]) (t:=46) (by repeat first | with_reducible exact List.mem_cons_self | with_reducible exact .head _ | refine .tail _ ?_);have hcc:=(SN.out.list (.tail _ (.tail _ (.tail _ (.head _))))).cells (fun _=>rfl) HZI.out;have hcc2:=hcc 2 (.slice U ca.units.length cu) rfl;have hfc:=fun o=>(SN.out.list (.tail _ (.tail _ (.tail _ (.head _))))).free o;clear hcc))
    refine hK.out _ _ ?_ (fun hHeld=>?_)
    ·(first | exact ⟨k5 0,hcc2⟩ | go_keep)
    clear hK K
    (try simp only [aP,aZ,aS,aG,aH,aI])
    refine tku (b:=?_) [11] (by kernel_rfl) hHeld ?_ ?_
    rotate_left
    ·repeat first
     |exact .nil
     |refine .yes (v:=?_) rfl (by rfl) ?_ ?_
      rotate_left
      ·intro w9 hSw;(try dsimp only at hSw);go_simp;(try with_reducible rfl)
      (try simp only [aP,aZ,aS,aG,aH,aI])
    refine onu 12 rfl (by kernel_rfl) fun K hK=>?_
    go_simp
    refine hK.out _ _ ?_ (fun hHeld=>?_)
    ·(first | exact ⟨k5 0,hcc2⟩ | go_keep)
    clear hK K
    (try simp only [aP,aZ,aS,aG,aH,aI])
    refine onu 13 rfl (by kernel_rfl) fun K hK=>?_
    (refine sapp_Int (.tmp 74) (.tmp 78) rfl rfl (IntKind.i64.wrap (y - 1)) rfl rfl (heap_alloc_new _ _) rfl ((SN.out.list (.head _)).next (by repeat' with_reducible first | assumption | exact bR | apply bD | apply bA | apply bC | apply bN | simp <;> omega)) (by first | omega | (simp;done) | (simp;omega)) (by have h9:=(SN.out.list (.tail _ (.tail _ (.tail _ (.head _))))).size;first | omega | (simp;done) | (simp;omega)) ?_;intro v7 w7 ha;obtain ⟨g7,S7⟩:=(SN.out.next (by repeat' with_reducible first | assumption | exact bR | apply bD | apply bA | apply bC | apply bN | simp <;> omega)).app ha;have S8:=Lib.hid S7;obtain ⟨C7,c7,rfl,_⟩:=(S7.list (.head _)).form;simp only [List.length_append,List.length_cons,List.length_nil,Nat.zero_add] at S8;clear SN S7 ha;have SN:=S8;clear S8;have k5:=SN.out.box (g:=b5) (cs:=#[(.slice (some ⟨gc,0,none⟩) zs.length cc),(.slice (some ⟨gs,0,none⟩) XS.length cs)]) (t:=46) (by repeat first | with_reducible exact List.mem_cons_self | with_reducible exact .head _ | refine .tail _ ?_);have hcc:=(SN.out.list (.tail _ (.tail _ (.tail _ (.head _))))).cells (fun _=>rfl) HZI.out;have hcc2:=hcc 2 (.slice U ca.units.length cu) rfl;have hfc:=fun o=>(SN.out.list (.tail _ (.tail _ (.tail _ (.head _))))).free o;clear hcc)
    refine hK.out _ _ ?_ (fun hHeld=>?_)
    ·(first | exact ⟨k5 0,hcc2⟩ | go_keep)
    clear hK K
    (try simp only [aP,aZ,aS,aG,aH,aI])
    refine tku (b:=?_) [14,15] (by kernel_rfl) hHeld ?_ ?_
    rotate_left
    ·repeat first
     |exact .nil
     |refine .yes (v:=?_) rfl (by rfl) ?_ ?_
      rotate_left
      ·intro w9 hSw;(try dsimp only at hSw);go_simp;(try with_reducible rfl)
      (try simp only [aP,aZ,aS,aG,aH,aI])
    refine lsu 16 rfl (by kernel_rfl) fun K hK=>?_
    go_simp
    refine hK.out _ _ ?_
    clear hK K
    (try simp only [aP,aZ,aS,aG,aH,aI])
    go_wp2_with fail
    go_meet
    obtain ⟨fq2,SQ⟩:=SN.out.grown (x:=(⟨ca.type,ca.group,ca.units ++ [IntKind.i64.wrap (y - 1)]⟩:Carton)) (j:=2) (us:=[.slice C7 (ca.units.length + 1) c7]) hi rfl (fun _ _=>rfl) (by simp) (by rw [HZK.out];rfl)
    exact ⟨_,_,_,_,Lib.hid SQ.toRp,HPS.out.setC _ _ (by show (ca.units ++ [_]).length≤100;simp;omega)⟩
   by_cases h4:kk=4
   ·subst h4
    obtain ⟨fq2,SQ⟩:=SN.out.headNil HZI.out
    go_wp2_with fail
    go_meet
    exact ⟨_,_,_,_,Lib.hid SQ.toRp,HPS.out.setC _ _ (by show (0:Nat)≤100;omega)⟩
   by_cases h5:kk=5
   ·subst h5
    have hcap:XS.length≤cs:=(SN.out.list (.tail _ (.tail _ (.head _)))).cap
    have f5z:=SN.out.free (g:=b5) (cs:=#[(.slice (some ⟨gc,0,none⟩) zs.length cc),(.slice (some ⟨gs,0,none⟩) XS.length cs)]) (t:=46) (.tail _ (.tail _ (.tail _ (.head _))))
    have hX1:0 < XS.length:=by have:=HXS.out;omega
    have hX2:1≤XS.length:=hX1
    by_cases hc1:cs=1
    ·subst hc1
     have hp1:XS.length=1:=by omega
     go_wp2_with fail
     go_meet
     exact ⟨⟨zs.map Prod.fst,[]⟩,_,.slice (some ⟨gs,0,none⟩) 0 0,_,Lib.hid ((SN.out.toRp.nilS.rot2.store 1 (.slice (some ⟨gs,0,none⟩) 0 0)).rot2),⟨HPS.out.cartons,HPS.out.units,by simp⟩⟩
    ·have hc0 : ¬ (cs - 1=0):=by omega
     go_wp2_with fail
     go_meet
     exact ⟨⟨zs.map Prod.fst,XS.drop 1⟩,_,_,_,Lib.hid (((SN.out.toRp.dropS hX1).rot2.store 1 (.slice (some ⟨gs,0 + 4,none⟩) (XS.length - 1) (cs - 1))).rot2),⟨HPS.out.cartons,HPS.out.units,by have:=HPS.out.spots;simp at this ⊢;omega⟩⟩
   by_cases h6:kk=6
   ·subst h6
    go_wp2_with fail
    refine regu (S:=(fun W'=>W'.cell? ⟨b5,0,none⟩=some (.slice (some ⟨gc,0,none⟩) zs.length cc))) (by kernel_rfl) (fun _ _ _ _ _=>id) ?_ fun hHeld=>?_
    ·(first | exact k5 0 | go_keep)
    refine tku (b:=?_) [0,1,2,3] (by kernel_rfl) hHeld ?_ ?_
    rotate_left
    ·repeat first
     |exact .nil
     |refine .yes (v:=?_) rfl (by rfl) ?_ ?_
      rotate_left
      ·intro w9 hSw;(try dsimp only at hSw);go_simp;(try with_reducible rfl)
      (try simp only [aP,aZ,aS,aG,aH,aI])
    refine onu 4 rfl (by kernel_rfl) fun K hK=>?_
    go_simp
    ((go_at_call 133;refine Sit.cs SN.out fun SN0=>?_;(try simp only [World.size_alloc,World.size_drew] at SN0);refine (below_sit SN0 HB.out (by repeat first | with_reducible exact List.mem_cons_self | with_reducible exact .head _ | refine .tail _ ?_) _ (by first | decide | omega)).mono ?_;rintro e w1 ⟨y,rfl,hy,SN1,T1⟩;have SN2:=Lib.hid SN1;clear SN SN0 SN1 T1;have SN:=SN2;clear SN2;have k5:=SN.out.box (g:=b5) (cs:=#[(.slice (some ⟨gc,0,none⟩) zs.length cc),(.slice (some ⟨gs,0,none⟩) XS.length cs)]) (t:=46) (.tail _ (.tail _ (.tail _ (.head _))));have hcc:=(SN.out.list (.head _)).cells (fun _=>rfl) HZI.out;have hcc0:=hcc 0 _ rfl;have hcc1:=hcc 1 _ rfl;have hcc2:=hcc 2 _ rfl;have hfc:=fun o=>(SN.out.list (.head _)).free o;have hcs:=(SN.out.list (.tail _ (.tail _ (.head _)))).cells (fun _=>rfl) HSI.out;have hcs0:=hcs 0 _ rfl;have hcs1:=hcs 1 _ rfl;have hcs3:=hcs 3 _ rfl;have hfs:=fun o=>(SN.out.list (.tail _ (.tail _ (.head _)))).free o;simp only [Nat.add_zero] at hcc0 hcs0;clear hcc hcs))
    refine hK.out _ _ ?_ (fun hHeld=>?_)
    ·(first | exact k5 0 | go_keep)
    clear hK K
    (try simp only [aP,aZ,aS,aG,aH,aI])
    refine tku (b:=?_) [5,6,7] (by kernel_rfl) hHeld ?_ ?_
    rotate_left
    ·repeat first
     |exact .nil
     |refine .yes (v:=?_) rfl (by rfl) ?_ ?_
      rotate_left
      ·intro w9 hSw;(try dsimp only at hSw);go_simp;(try with_reducible rfl)
      (try simp only [aP,aZ,aS,aG,aH,aI])
    refine lsu 8 rfl (by kernel_rfl) fun K hK=>?_
    go_simp
    refine hK.out _ _ ?_
    clear hK K
    (try simp only [aP,aZ,aS,aG,aH,aI])
    go_wp2_with fail
    go_meet
    obtain ⟨fq2,SQ⟩:=SN.out.headSet (j:=1) (us:=[.int .i64 (IntKind.i64.wrap (y - 1))]) (a':=⟨ca.type,IntKind.i64.wrap (y - 1),ca.units⟩) HZI.out rfl (by simp) rfl
    exact ⟨_,_,_,_,Lib.hid SQ.toRp,HPS.out.setC _ _ (by show ca.units.length≤100;omega)⟩
   by_cases h7:kk=7
   ·subst h7
    have HUL:=Lib.hid hul
    have hXS48:XS.length≤48:=by have:=HXS.out;omega
    clear k5 hcs0 hcs1 hcs3 hfs hfc
    have k5:=SN.out.box (g:=b5) (cs:=#[(.slice (some ⟨gc,0,none⟩) zs.length cc),(.slice (some ⟨gs,0,none⟩) XS.length cs)]) (t:=46) (by repeat first | with_reducible exact List.mem_cons_self | with_reducible exact .head _ | refine .tail _ ?_);have f5:=SN.out.free (g:=b5) (cs:=#[(.slice (some ⟨gc,0,none⟩) zs.length cc),(.slice (some ⟨gs,0,none⟩) XS.length cs)]) (t:=46) (by repeat first | with_reducible exact List.mem_cons_self | with_reducible exact .head _ | refine .tail _ ?_)
    go_wp2_with fail
    refine regu (S:=(fun W'=>W'.cell? ⟨b5,0,none⟩=some (.slice (some ⟨gc,0,none⟩) zs.length cc))) (by kernel_rfl) (fun _ _ _ _ _=>id) ?_ fun hHeld=>?_
    ·(first | exact k5 0 | go_keep)
    refine tku (b:=?_) [0,1,2,3,4,5] (by kernel_rfl) hHeld ?_ ?_
    rotate_left
    ·repeat first
     |exact .nil
     |refine .yes (v:=?_) rfl (by rfl) ?_ ?_
      rotate_left
      ·intro w9 hSw;(try dsimp only at hSw);go_simp;(try with_reducible rfl)
      (try simp only [aP,aZ,aS,aG,aH,aI])
    refine onu 6 rfl (by kernel_rfl) fun K hK=>?_
    go_simp
    refine hK.out _ _ ?_ (fun hHeld=>?_)
    ·(first | exact k5 0 | go_keep)
    clear hK K
    (try simp only [aP,aZ,aS,aG,aH,aI])
    refine onu 7 rfl (by kernel_rfl) fun K hK=>?_
    go_simp
    ((go_at_call 157;refine Sit.cs SN.out fun SN0=>?_;(try simp only [World.size_alloc,World.size_drew] at SN0);refine (l9Carton_any ca (.slice U ca.units.length cu) _ (OInts.read ((SN0.inns (.tail _ (.head _))).read HZI.out).choose_spec (by omega))).mono ?_;rintro e w1 ⟨A6,c6,rfl,ho6,hb6⟩;have SN2:=Lib.hid (fOF_base (B':=B0) (SN0.addOF hb6 (OF.mk ho6) (Nat.le_refl _)) (by have h9:=(SN0.list (.head _)).size;omega));clear SN SN0 hb6 ho6 k5 f5;have SN:=SN2;clear SN2;have k5:=SN.out.box (g:=b5) (cs:=#[(.slice (some ⟨gc,0,none⟩) zs.length cc),(.slice (some ⟨gs,0,none⟩) XS.length cs)]) (t:=46) (by repeat first | with_reducible exact List.mem_cons_self | with_reducible exact .head _ | refine .tail _ ?_);have f5:=SN.out.free (g:=b5) (cs:=#[(.slice (some ⟨gc,0,none⟩) zs.length cc),(.slice (some ⟨gs,0,none⟩) XS.length cs)]) (t:=46) (by repeat first | with_reducible exact List.mem_cons_self | with_reducible exact .head _ | refine .tail _ ?_)))
    refine hK.out _ _ ?_ (fun hHeld=>?_)
    ·(first | exact k5 0 | go_keep)
    clear hK K
    (try simp only [aP,aZ,aS,aG,aH,aI])
    refine onu 8 rfl (by kernel_rfl) fun K hK=>?_
    go_simp
    refine hK.out _ _ ?_ (fun hHeld=>?_)
    ·(first | exact k5 0 | go_keep)
    clear hK K
    (try simp only [aP,aZ,aS,aG,aH,aI])
    refine onu 9 rfl (by kernel_rfl) fun K hK=>?_
    (refine sapp_hCarton (.tmp 108) (.tmp 115) rfl rfl (ca,.slice A6 ca.units.length c6) rfl rfl (heap_alloc_new _ _) rfl ((SN.out.list (.tail _ (.head _))).next (by repeat' with_reducible first | assumption | exact bR | apply bD | apply bA | apply bC | apply bN | simp <;> omega)) (by first | omega | (simp;done) | (simp;omega)) (by have h9:=(SN.out.list (.tail _ (.head _))).size;first | omega | (simp;done) | (simp;omega)) ?_;intro v7 w7 ha;obtain ⟨g7,g8,S7⟩:=SN.out.pushed (x:=ca) rfl (by repeat' with_reducible first | assumption | exact bR | apply bD | apply bA | apply bC | apply bN | simp <;> omega) ha;have S8:=Lib.hid S7;obtain ⟨C7,c7,rfl,_⟩:=(S7.list (.head _)).form;simp only [List.length_append,List.length_cons,List.length_nil,Nat.zero_add] at S8;clear SN S7 ha k5 f5;have SN:=S8;clear S8;have k5:=SN.out.box (g:=b5) (cs:=#[(.slice (some ⟨gc,0,none⟩) zs.length cc),(.slice (some ⟨gs,0,none⟩) XS.length cs)]) (t:=46) (by repeat first | with_reducible exact List.mem_cons_self | with_reducible exact .head _ | refine .tail _ ?_);have f5:=SN.out.free (g:=b5) (cs:=#[(.slice (some ⟨gc,0,none⟩) zs.length cc),(.slice (some ⟨gs,0,none⟩) XS.length cs)]) (t:=46) (by repeat first | with_reducible exact List.mem_cons_self | with_reducible exact .head _ | refine .tail _ ?_))
    refine hK.out _ _ ?_ (fun hHeld=>?_)
    ·(first | exact k5 0 | go_keep)
    clear hK K
    (try simp only [aP,aZ,aS,aG,aH,aI])
    refine tku (b:=?_) [10] (by kernel_rfl) hHeld ?_ ?_
    rotate_left
    ·repeat first
     |exact .nil
     |refine .yes (v:=?_) rfl (by rfl) ?_ ?_
      rotate_left
      ·intro w9 hSw;(try dsimp only at hSw);go_simp;(try with_reducible rfl)
      (try simp only [aP,aZ,aS,aG,aH,aI])
    refine lsu 11 rfl (by kernel_rfl) fun K hK=>?_
    go_simp
    refine hK.out _ _ ?_
    clear hK K
    (try simp only [aP,aZ,aS,aG,aH,aI])
    have SQ:=Lib.hid ((SN.out.rot4.store 0 (.slice C7 (zs.length + 1) c7)).ror4)
    clear SN k5 f5
    have SN:=SQ
    clear SQ
    generalize w7.setCell ⟨b5,0,none⟩ (.slice C7 (zs.length + 1) c7)=W9 at SN ⊢
    have k50:W9.cell? ⟨b5,0,none⟩=some (.slice C7 (zs.length + 1) c7):=SN.out.box (.tail _ (.tail _ (.tail _ (.head _)))) 0
    have k51:W9.cell? ⟨b5,1,none⟩=some (.slice (some ⟨gs,0,none⟩) XS.length cs):=SN.out.box (.tail _ (.tail _ (.tail _ (.head _)))) 1
    go_wp2_with (at_builtin;refine papp_Spot _ _ rfl rfl ⟨9,0,0,0⟩ rfl rfl (heap_alloc_new _ _) rfl ((SN.out.list (.tail _ (.tail _ (.head _)))).next (by repeat' with_reducible first | assumption | exact bR | apply bD | apply bA | apply bC | apply bN | simp <;> omega)) (by first | omega | (simp;done) | (simp;omega)) (by have h9:=(SN.out.list (.tail _ (.tail _ (.head _)))).size;first | omega | (simp;done) | (simp;omega)) ?_;intro v8 w8 ha;obtain ⟨g9,S7⟩:=(SN.out.rot3.next (by repeat' with_reducible first | assumption | exact bR | apply bD | apply bA | apply bC | apply bN | simp <;> omega)).app ha;have S8:=Lib.hid S7;obtain ⟨C8,c8,rfl,_⟩:=(S7.list (.head _)).form;simp only [List.length_append,List.length_cons,List.length_nil,Nat.zero_add] at S8;have k4:=S7.box (.tail _ (.tail _ (.tail _ (.head _))));have f4:=S7.free (.tail _ (.tail _ (.tail _ (.head _))));clear S7 ha)
    go_meet
    exact ⟨_,_,_,_,Lib.hid ((S8.out.ror3.rot4.store 1 (.slice C8 (XS.length + 1) c8)).ror4.toRp),HPS.out.more hz48 hXS48 _ _ (by show ca.units.length≤100;have:=HUL.out;omega)⟩
   by_cases h8:kk=8
   ·subst h8
    go_wp2_with fail
    refine regu (S:=(fun W'=>W'.cell? ⟨b5,1,none⟩=some (.slice (some ⟨gs,0,none⟩) XS.length cs))) (by kernel_rfl) (fun _ _ _ _ _=>id) ?_ fun hHeld=>?_
    ·(first | exact k5 1 | go_keep)
    refine tku (b:=?_) [0,1,2,3] (by kernel_rfl) hHeld ?_ ?_
    rotate_left
    ·repeat first
     |exact .nil
     |refine .yes (v:=?_) rfl (by rfl) ?_ ?_
      rotate_left
      ·intro w9 hSw;(try dsimp only at hSw);go_simp;(try with_reducible rfl)
      (try simp only [aP,aZ,aS,aG,aH,aI])
    refine onu 4 rfl (by kernel_rfl) fun K hK=>?_
    go_simp
    refine hK.out _ _ ?_ (fun hHeld=>?_)
    ·(first | exact k5 1 | go_keep)
    clear hK K
    (try simp only [aP,aZ,aS,aG,aH,aI])
    refine onu 5 rfl (by kernel_rfl) fun K hK=>?_
    go_simp
    ((go_at_call 156;refine Sit.cs SN.out fun SN0=>?_;(try simp only [World.size_alloc,World.size_drew] at SN0);refine (pick_sit SN0 HB.out (by repeat first | with_reducible exact List.mem_cons_self | with_reducible exact .head _ | refine .tail _ ?_) (.head _) _ _ (by rfl) (by decide) (by decide) (by simp)).mono ?_;rintro e w1 ⟨y,rfl,SN1,T1⟩;have SN2:=Lib.hid SN1.drop;clear SN SN0 SN1 T1;have SN:=SN2;clear SN2;have k5:=SN.out.box (g:=b5) (cs:=#[(.slice (some ⟨gc,0,none⟩) zs.length cc),(.slice (some ⟨gs,0,none⟩) XS.length cs)]) (t:=46) (.tail _ (.tail _ (.tail _ (.head _))));have hcc:=(SN.out.list (.head _)).cells (fun _=>rfl) HZI.out;have hcc0:=hcc 0 _ rfl;have hcc1:=hcc 1 _ rfl;have hcc2:=hcc 2 _ rfl;have hfc:=fun o=>(SN.out.list (.head _)).free o;have hcs:=(SN.out.list (.tail _ (.tail _ (.head _)))).cells (fun _=>rfl) HSI.out;have hcs0:=hcs 0 _ rfl;have hcs1:=hcs 1 _ rfl;have hcs3:=hcs 3 _ rfl;have hfs:=fun o=>(SN.out.list (.tail _ (.tail _ (.head _)))).free o;simp only [Nat.add_zero] at hcc0 hcs0;clear hcc hcs))
    refine hK.out _ _ ?_ (fun hHeld=>?_)
    ·(first | exact k5 1 | go_keep)
    clear hK K
    (try simp only [aP,aZ,aS,aG,aH,aI])
    refine tku (b:=?_) [6,7] (by kernel_rfl) hHeld ?_ ?_
    rotate_left
    ·repeat first
     |exact .nil
     |refine .yes (v:=?_) rfl (by rfl) ?_ ?_
      rotate_left
      ·intro w9 hSw;(try dsimp only at hSw);go_simp;(try with_reducible rfl)
      (try simp only [aP,aZ,aS,aG,aH,aI])
    refine lsu 8 rfl (by kernel_rfl) fun K hK=>?_
    go_simp
    refine hK.out _ _ ?_
    clear hK K
    (try simp only [aP,aZ,aS,aG,aH,aI])
    go_wp2_with fail
    go_meet
    exact ⟨_,_,_,_,Lib.hid ((SN.out.rot3.put (fun _=>rfl) HSI.out (j:=3) (us:=[.int .i64 y]) (y:=⟨sp.pallet,sp.x,sp.y,y⟩) (by simp) rfl).ror3.toRp),HPS.out.setS _ _⟩
   go_wp2_with fail
   go_meet
   exact ⟨_,_,_,_,Lib.hid SN.out.toRp,HPS.out⟩
  case rest =>
   obtain ⟨x,vc,vs,fq,SN2,hsx⟩:=hcut
   clear SN
   have SN:=SN2
   clear SN2
   obtain ⟨zs2,hz2,⟨A7,c7,rfl,_⟩,_,⟨A8,c8,rfl,_⟩⟩:=RpOn.open (SN.out.on _ (.head _))
   clear hz2
   have k4:=SN.out.box (g:=b4) (cs:=(cR r A1 c1 A2 c2 A3 c3)) (t:=41) mq
   have k5:=SN.out.box (g:=b5) (cs:=#[.slice A7 zs2.length c7,.slice A8 x.spots.length c8]) (t:=46) mq
   have SF:=Lib.hid ((SN.out.perm (perm_out _ _ _ _ _ _ _)).sub (.cons_cons _ (.cons_cons _ (.cons_cons _ (.cons_cons _ (.cons _ (.cons _ (.cons _ (List.Sublist.refl _)))))))))
   have k2:=SF.out.box (.head _)
   have f2:=SF.out.free (.head _)
   have k3:=SF.out.box (.tail _ (.head _))
   have f3:=SF.out.free (.tail _ (.head _))
   have m40:=k4 0
   have m41:=k4 1
   have m42:=k4 2
   have m43:=k4 3
   have m44:=k4 4
   have m45:=k4 5
   have m46:=k4 6
   have m47:=k4 7
   have m48:=k4 8
   have m49:=k4 9
   have m50:=k5 0
   have m51:=k5 1
   simp at m40 m41 m42 m43 m44 m45 m46 m47 m48 m49 m50 m51
   clear k4 k5
   go_wp2_with fail
   refine regu (S:=(fun W'=>(cS10 (W') (b4) (r) (.slice A1 r.pairs.length c1) (.slice A2 r.types.length c2) (.slice A3 r.items.length c3))∧W'.cell? ⟨b5,0,none⟩=some (.slice A7 zs2.length c7)∧W'.cell? ⟨b5,1,none⟩=some (.slice A8 x.spots.length c8))) (by kernel_rfl) (fun _ _ _ _ _=>id) ?_ fun hHeld=>?_
   ·go_keep
   refine tku (b:=?_) [0,1] (by kernel_rfl) hHeld ?_ ?_
   rotate_left
   ·repeat first
    |exact .nil
    |refine .yes (v:=?_) rfl (by rfl) ?_ ?_
     rotate_left
     ·intro w9 hSw;(try dsimp only at hSw);go_simp;(try with_reducible rfl)
     (try simp only [aP,aZ,aS,aG,aH,aI])
   refine onu 2 rfl (by kernel_rfl) fun K hK=>?_
   go_simp
   refine hK.out _ _ ?_ (fun hHeld=>?_)
   ·go_keep
   clear hK K
   (try simp only [aP,aZ,aS,aG,aH,aI])
   refine lsu 3 rfl (by kernel_rfl) fun K hK=>?_
   go_simp
   refine hK.out _ _ ?_
   clear hK K
   (try simp only [aP,aZ,aS,aG,aH,aI])
   go_wp2_with fail
   refine bodyPost_ret (v:=.tuple #[.agg (cR r A1 c1 A2 c2 A3 c3),.agg #[.slice A7 zs2.length c7,.slice A8 x.spots.length c8]]) (by simp [results,Tryz.results120,go_sem,k2,f2,k3,f3]) rfl ?_
   exact ⟨_,r,fp,_,_,x,_,rfl,((((SF.out.overL [.int .i64 r.way,.int .i64 r.pallet.w,.int .i64 r.pallet.d,.int .i64 r.pallet.h,.int .i64 r.pallet.gram,.int .i64 r.classes,.slice A1 r.pairs.length c1,.slice A2 r.types.length c2,.int .i64 r.master,.slice A3 r.items.length c3] 0).rot2.overL [.slice A7 zs2.length c7,.slice A8 x.spots.length c8] 0).drop.drop).drew),hbk,hsx⟩
end Go.Proofs.YtioijfplbgpjpaaGreat
