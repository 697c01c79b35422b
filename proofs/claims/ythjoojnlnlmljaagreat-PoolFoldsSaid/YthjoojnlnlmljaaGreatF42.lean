/- Leaves in any order: plain. No condition. -/
import Derived.Test.YthjoojnlnlmljaaGreatF37
set_option linter.all false
set_option maxRecDepth 100000
set_option maxHeartbeats 8000000
namespace Go.Proofs.YthjoojnlnlmljaaGreat
open Go
def yv (cs:List Int)(leaf:Int):Nat→Int
 | 0=> -1
 | k+1=>if cs.getD k 0=leaf then(k:Int) else yv cs leaf k
theorem Yy (cs:List Int)(o:Int): ∀k,(yv cs o k= -1∧ ∀i,i<k→cs.getD i 0≠o)∨ ∃i:Nat,i<k∧yv cs o k=i∧cs.getD i 0=o
 | 0=> .inl ⟨rfl,fun i I=>by omega⟩
 | k+1=>by
  unfold yv;by_cases h:cs.getD k 0=o
  ·rw[if_pos h];exact .inr ⟨k,by omega,rfl,h⟩
  ·rw[if_neg h];rcases Yy cs o k with⟨D,q⟩|⟨i,D,q,G⟩
   ·refine .inl ⟨D,fun i I=>?_⟩;by_cases e:i=k
    ·rw[e];exact h
    ·exact q i (by omega)
   ·exact .inr ⟨i,by omega,q,G⟩
theorem Z9: ∀(q o:List Nat),q.Nodup→(∀x∈q,x∈o)→q.length≤o.length
 | [],_,_,_=>Nat.zero_le _
 | x::xs,o,hn,hs=>by
  rw[List.nodup_cons]at hn;have G:=hs x List.mem_cons_self;have I:=Z9 xs (o.erase x) hn.2 (fun y D=>(List.mem_erase_of_ne (fun e=>hn.1 (by rw[←e];exact D))).2 (hs y (List.mem_cons_of_mem _ D)));rw[List.length_erase_of_mem G]at I;have:0<o.length:=List.length_pos_of_mem G
  rw[List.length_cons];omega
def qbi (ti:Int)(cs:List Int)(LS:List (List Int))(n:Nat):Prop:=(∀i,i<n→0≤cs.getD i 0∧cs.getD i 0<n)∧(∀i j,i<j→j<n→cs.getD i 0≠cs.getD j 0)∧ ∀i,i<n→((LS.getD i []).length:Int)=ti
def qhZ (ti:Int)(cs:List Int)(LS:List (List Int))(n:Nat):Prop:= ∀leaf:Nat,leaf<n→ ∃i:Nat,i<n∧yv cs leaf n=i∧((LS.getD i []).length:Int)=ti
theorem qgQ {cs:List Int}{n:Nat}(h: ∀o:Nat,o<n→ ∃i:Nat,i<n∧cs.getD i 0=o): ∀i,i<n→ ∃o:Nat,o<n∧cs.getD i 0=o:=by
 intro i Y;have q: ∃f:Nat→Nat,∀o,o<n→f o<n∧cs.getD (f o) 0=o:=by
  refine⟨fun o=>if D:o<n then Classical.choose (h o D) else 0,fun o U=>?_⟩;dsimp only;rw[dif_pos U];exact Classical.choose_spec (h o U)
 obtain⟨f,q⟩:=q;have I: ∃o,o<n∧f o=i:=by
  refine Classical.byContradiction fun I=>?_
  have S:((List.range n).map f).Nodup:=by
   rw[List.nodup_iff_pairwise_ne,List.pairwise_map];refine(List.nodup_iff_pairwise_ne.1 List.nodup_range).imp_of_mem fun {a b} G hb hab e=>?_
   have D:=(q a (List.mem_range.1 G)).2;have J:=(q b (List.mem_range.1 hb)).2;rw[e,J]at D;exact hab (by omega)
  have V:=Z9 (i::(List.range n).map f) (List.range n) (by
   rw[List.nodup_cons];refine⟨fun X=>?_,S⟩;obtain⟨a,G,e⟩:=List.mem_map.1 X;exact I ⟨a,List.mem_range.1 G,e⟩) (fun x O=>by
   rcases List.mem_cons.1 O with rfl|O
   ·exact List.mem_range.2 Y
   ·obtain⟨a,G,rfl⟩:=List.mem_map.1 O;exact List.mem_range.2 (q a (List.mem_range.1 G)).1)
  simp at V
  omega
 obtain⟨o,D,J⟩:=I;exact⟨o,D,by rw[←J];exact(q o D).2⟩
theorem ZJ {ti:Int}{cs:List Int}{LS:List (List Int)}{n:Nat}:qbi ti cs LS n↔qhZ ti cs LS n:=by
 constructor
 ·rintro⟨D,G,h3⟩ o V
  rcases Yy cs o n with⟨O,Z⟩|⟨i,O,Z,k3⟩
  ·exfalso
   have hm: ∀i,i<n→(cs.getD i 0).toNat<n∧(cs.getD i 0).toNat≠o:=fun i X=>by
    have h4:=D i X;have h5:=Z i X;omega
   have aa:((List.range n).map fun i=>(cs.getD i 0).toNat).Nodup:=by
    rw[List.nodup_iff_pairwise_ne,List.pairwise_map];refine(List.nodup_iff_pairwise_ne.1 List.nodup_range).imp_of_mem fun {a b} I hb hab e=>?_
    have ab:=List.mem_range.1 I;have ac:=List.mem_range.1 hb;have p1:=D a ab;have p2:=D b ac;have e2:cs.getD a 0=cs.getD b 0:=by omega
    rcases Nat.lt_or_gt_of_ne hab with q|q
    ·exact G a b q ac e2
    ·exact G b a q ab e2.symm
   have h6:=Z9 (o::(List.range n).map fun i=>(cs.getD i 0).toNat) (List.range n) (by
    rw[List.nodup_cons];refine⟨fun S=>?_,aa⟩;obtain⟨a,I,e⟩:=List.mem_map.1 S;exact(hm a (List.mem_range.1 I)).2 e) (fun x S=>by
    rcases List.mem_cons.1 S with rfl|S
    ·exact List.mem_range.2 V
    ·obtain⟨a,I,rfl⟩:=List.mem_map.1 S;exact List.mem_range.2 (hm a (List.mem_range.1 I)).1)
   simp at h6
   omega
  ·exact⟨i,O,Z,h3 i O⟩
 ·intro h;have af: ∀o:Nat,o<n→ ∃i:Nat,i<n∧cs.getD i 0=o:=fun o V=>by
   obtain⟨i,D,G, -⟩:=h o V;rcases Yy cs o n with⟨O, -⟩|⟨j,O,Z,k3⟩
   ·omega
   ·exact⟨j,O,k3⟩
  have ad:=qgQ af;have Y: ∀o:Nat,o<n→ ∃i:Nat,i<n∧yv cs o n=i∧cs.getD i 0=o∧((LS.getD i []).length:Int)=ti:=fun o V=>by
   obtain⟨i,D,G,h3⟩:=h o V;rcases Yy cs o n with⟨O, -⟩|⟨j,O,Z,k3⟩
   ·omega
   ·obtain rfl:j=i:=by omega
    exact⟨j,O,Z,k3,h3⟩
  have U: ∃f:Nat→Nat,∀o,o<n→f o<n∧cs.getD (f o) 0=o∧((LS.getD (f o) []).length:Int)=ti:=by
   refine⟨fun o=>if D:o<n then Classical.choose (Y o D) else 0,fun o V=>?_⟩;dsimp only;rw[dif_pos V];obtain⟨q1, -,q2,q3⟩:=Classical.choose_spec (Y o V);exact⟨q1,q2,q3⟩
  obtain⟨f,U⟩:=U;have J: ∀i,i<n→ ∃o,o<n∧f o=i:=fun i X=>by
   refine Classical.byContradiction fun ae=>?_
   have aa:((List.range n).map f).Nodup:=by
    rw[List.nodup_iff_pairwise_ne,List.pairwise_map];refine(List.nodup_iff_pairwise_ne.1 List.nodup_range).imp_of_mem fun {a b} I hb hab e=>?_
    have D:=(U a (List.mem_range.1 I)).2.1;have G:=(U b (List.mem_range.1 hb)).2.1;rw[e,G]at D;exact hab (by omega)
   have h3:=Z9 (i::(List.range n).map f) (List.range n) (by
    rw[List.nodup_cons];refine⟨fun hm=>?_,aa⟩;obtain⟨a,I,e⟩:=List.mem_map.1 hm;exact ae ⟨a,List.mem_range.1 I,e⟩) (fun x S=>by
    rcases List.mem_cons.1 S with rfl|S
    ·exact List.mem_range.2 X
    ·obtain⟨a,I,rfl⟩:=List.mem_map.1 S;exact List.mem_range.2 (U a (List.mem_range.1 I)).1)
   simp at h3
   omega
  refine⟨fun i X=>?_,fun i j ag hj e=>?_,fun i X=>?_⟩
  ·obtain⟨o,D,G⟩:=ad i X;rw[G];omega
  ·obtain⟨a,a1,a2⟩:=J i (by omega);obtain⟨b,b1,b2⟩:=J j hj;have D:=(U a a1).2.1;have G:=(U b b1).2.1;rw[a2]at D;rw[b2]at G;rw[D,G]at e;have:a=b:=by omega
   subst this;omega
  ·obtain⟨a,a1,a2⟩:=J i X;have:=(U a a1).2.2
   rw[a2]at this;exact this
end Go.Proofs.YthjoojnlnlmljaaGreat
