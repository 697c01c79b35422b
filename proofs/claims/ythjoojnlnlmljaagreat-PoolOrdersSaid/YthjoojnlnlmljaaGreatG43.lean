/- Leaves in any order: plain. No condition. -/
import Derived.Test.YthjoojnlnlmljaaGreatG37
set_option linter.all false
set_option maxRecDepth 100000
set_option maxHeartbeats 8000000
namespace Go.Proofs.YthjoojnlnlmljaaGreat
open Go
def zV (cs:List Int)(leaf:Int):Nat→Int
 | 0=> -1
 | k+1=>if cs.getD k 0=leaf then(k:Int) else zV cs leaf k
theorem Y8 (cs:List Int)(o:Int): ∀k,(zV cs o k= -1∧ ∀i,i<k→cs.getD i 0≠o)∨ ∃i:Nat,i<k∧zV cs o k=i∧cs.getD i 0=o
 | 0=> .inl ⟨rfl,fun i G=>by omega⟩
 | k+1=>by
  unfold zV;by_cases h:cs.getD k 0=o
  ·rw[if_pos h];exact .inr ⟨k,by omega,rfl,h⟩
  ·rw[if_neg h];rcases Y8 cs o k with⟨D,q⟩|⟨i,D,q,I⟩
   ·refine .inl ⟨D,fun i G=>?_⟩;by_cases e:i=k
    ·rw[e];exact h
    ·exact q i (by omega)
   ·exact .inr ⟨i,by omega,q,I⟩
theorem jq: ∀(q o:List Nat),q.Nodup→(∀x∈q,x∈o)→q.length≤o.length
 | [],_,_,_=>Nat.zero_le _
 | x::xs,o,hn,hs=>by
  rw[List.nodup_cons]at hn;have D:=hs x List.mem_cons_self;have I:=jq xs (o.erase x) hn.2 (fun y G=>(List.mem_erase_of_ne (fun e=>hn.1 (by rw[←e];exact G))).2 (hs y (List.mem_cons_of_mem _ G)));rw[List.length_erase_of_mem D]at I;have:0<o.length:=List.length_pos_of_mem D
  rw[List.length_cons];omega
def qbM (ti:Int)(cs:List Int)(LS:List (List Int))(n:Nat):Prop:=(∀i,i<n→0≤cs.getD i 0∧cs.getD i 0<n)∧(∀i j,i<j→j<n→cs.getD i 0≠cs.getD j 0)∧ ∀i,i<n→((LS.getD i []).length:Int)=ti
def OrdR (ti:Int)(cs:List Int)(LS:List (List Int))(n:Nat):Prop:= ∀leaf:Nat,leaf<n→ ∃i:Nat,i<n∧zV cs leaf n=i∧((LS.getD i []).length:Int)=ti
theorem qht {cs:List Int}{n:Nat}(h: ∀o:Nat,o<n→ ∃i:Nat,i<n∧cs.getD i 0=o): ∀i,i<n→ ∃o:Nat,o<n∧cs.getD i 0=o:=by
 intro i Z;have D: ∃f:Nat→Nat,∀o,o<n→f o<n∧cs.getD (f o) 0=o:=by
  refine⟨fun o=>if q:o<n then Classical.choose (h o q) else 0,fun o V=>?_⟩;dsimp only;rw[dif_pos V];exact Classical.choose_spec (h o V)
 obtain⟨f,D⟩:=D;have I: ∃o,o<n∧f o=i:=by
  refine Classical.byContradiction fun I=>?_
  have U:((List.range n).map f).Nodup:=by
   rw[List.nodup_iff_pairwise_ne,List.pairwise_map];refine(List.nodup_iff_pairwise_ne.1 List.nodup_range).imp_of_mem fun {a b} G hb hab e=>?_
   have q:=(D a (List.mem_range.1 G)).2;have J:=(D b (List.mem_range.1 hb)).2;rw[e,J]at q;exact hab (by omega)
  have X:=jq (i::(List.range n).map f) (List.range n) (by
   rw[List.nodup_cons];refine⟨fun Y=>?_,U⟩;obtain⟨a,G,e⟩:=List.mem_map.1 Y;exact I ⟨a,List.mem_range.1 G,e⟩) (fun x O=>by
   rcases List.mem_cons.1 O with rfl|O
   ·exact List.mem_range.2 Z
   ·obtain⟨a,G,rfl⟩:=List.mem_map.1 O;exact List.mem_range.2 (D a (List.mem_range.1 G)).1)
  simp at X
  omega
 obtain⟨o,q,J⟩:=I;exact⟨o,q,by rw[←J];exact(D o q).2⟩
theorem qd3 {ti:Int}{cs:List Int}{LS:List (List Int)}{n:Nat}:qbM ti cs LS n↔OrdR ti cs LS n:=by
 constructor
 ·rintro⟨D,G,h3⟩ o V
  rcases Y8 cs o n with⟨J,k2⟩|⟨i,J,k2,k3⟩
  ·exfalso
   have hm: ∀i,i<n→(cs.getD i 0).toNat<n∧(cs.getD i 0).toNat≠o:=fun i X=>by
    have h4:=D i X;have h5:=k2 i X;omega
   have aa:((List.range n).map fun i=>(cs.getD i 0).toNat).Nodup:=by
    rw[List.nodup_iff_pairwise_ne,List.pairwise_map];refine(List.nodup_iff_pairwise_ne.1 List.nodup_range).imp_of_mem fun {a b} I hb hab e=>?_
    have ab:=List.mem_range.1 I;have ac:=List.mem_range.1 hb;have p1:=D a ab;have p2:=D b ac;have e2:cs.getD a 0=cs.getD b 0:=by omega
    rcases Nat.lt_or_gt_of_ne hab with q|q
    ·exact G a b q ac e2
    ·exact G b a q ab e2.symm
   have h6:=jq (o::(List.range n).map fun i=>(cs.getD i 0).toNat) (List.range n) (by
    rw[List.nodup_cons];refine⟨fun O=>?_,aa⟩;obtain⟨a,I,e⟩:=List.mem_map.1 O;exact(hm a (List.mem_range.1 I)).2 e) (fun x O=>by
    rcases List.mem_cons.1 O with rfl|O
    ·exact List.mem_range.2 V
    ·obtain⟨a,I,rfl⟩:=List.mem_map.1 O;exact List.mem_range.2 (hm a (List.mem_range.1 I)).1)
   simp at h6
   omega
  ·exact⟨i,J,k2,h3 i J⟩
 ·intro h;have ad: ∀o:Nat,o<n→ ∃i:Nat,i<n∧cs.getD i 0=o:=fun o V=>by
   obtain⟨i,D,G, -⟩:=h o V;rcases Y8 cs o n with⟨J, -⟩|⟨j,J,k2,k3⟩
   ·omega
   ·exact⟨j,J,k3⟩
  have af:=qht ad;have Z: ∀o:Nat,o<n→ ∃i:Nat,i<n∧zV cs o n=i∧cs.getD i 0=o∧((LS.getD i []).length:Int)=ti:=fun o V=>by
   obtain⟨i,D,G,h3⟩:=h o V;rcases Y8 cs o n with⟨J, -⟩|⟨j,J,k2,k3⟩
   ·omega
   ·obtain rfl:j=i:=by omega
    exact⟨j,J,k2,k3,h3⟩
  have Y: ∃f:Nat→Nat,∀o,o<n→f o<n∧cs.getD (f o) 0=o∧((LS.getD (f o) []).length:Int)=ti:=by
   refine⟨fun o=>if D:o<n then Classical.choose (Z o D) else 0,fun o V=>?_⟩;dsimp only;rw[dif_pos V];obtain⟨q1, -,q2,q3⟩:=Classical.choose_spec (Z o V);exact⟨q1,q2,q3⟩
  obtain⟨f,Y⟩:=Y;have U: ∀i,i<n→ ∃o,o<n∧f o=i:=fun i X=>by
   refine Classical.byContradiction fun ae=>?_
   have aa:((List.range n).map f).Nodup:=by
    rw[List.nodup_iff_pairwise_ne,List.pairwise_map];refine(List.nodup_iff_pairwise_ne.1 List.nodup_range).imp_of_mem fun {a b} I hb hab e=>?_
    have D:=(Y a (List.mem_range.1 I)).2.1;have G:=(Y b (List.mem_range.1 hb)).2.1;rw[e,G]at D;exact hab (by omega)
   have h3:=jq (i::(List.range n).map f) (List.range n) (by
    rw[List.nodup_cons];refine⟨fun hm=>?_,aa⟩;obtain⟨a,I,e⟩:=List.mem_map.1 hm;exact ae ⟨a,List.mem_range.1 I,e⟩) (fun x O=>by
    rcases List.mem_cons.1 O with rfl|O
    ·exact List.mem_range.2 X
    ·obtain⟨a,I,rfl⟩:=List.mem_map.1 O;exact List.mem_range.2 (Y a (List.mem_range.1 I)).1)
   simp at h3
   omega
  refine⟨fun i X=>?_,fun i j ag hj e=>?_,fun i X=>?_⟩
  ·obtain⟨o,D,G⟩:=af i X;rw[G];omega
  ·obtain⟨a,a1,a2⟩:=U i (by omega);obtain⟨b,b1,b2⟩:=U j hj;have D:=(Y a a1).2.1;have G:=(Y b b1).2.1;rw[a2]at D;rw[b2]at G;rw[D,G]at e;have:a=b:=by omega
   subst this;omega
  ·obtain⟨a,a1,a2⟩:=U i X;have:=(Y a a1).2.2
   rw[a2]at this;exact this
end Go.Proofs.YthjoojnlnlmljaaGreat
