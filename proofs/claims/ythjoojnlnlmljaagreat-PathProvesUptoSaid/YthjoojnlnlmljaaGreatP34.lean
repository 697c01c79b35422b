/- A path and its digests, opened out of an argument; how long its lists are at most. No condition. -/
import Derived.Test.YthjoojnlnlmljaaGreatP05
import Derived.Test.YthjoojnlnlmljaaGreatP04
import Derived.Deep.Slices
set_option linter.all false
set_option maxRecDepth 100000
set_option maxHeartbeats 8000000
namespace Go.Proofs.YthjoojnlnlmljaaGreat
open Go.ChangeShapes Go.WideShapes Go.ChangeAt Go.RowKit Go.Joins Go.Shelf Go.Maps Go.Deep
def qbz (ds:List (List Int))(k:Nat):List Int:=ds.getD k []
def qid (zs:List Int):Prop:= ∀z∈zs,0≤z∧z≤255
def pRowsAt (w:World)(v:Value)(ds:List (List Int)):Prop:=
  ∃(a:Option Addr) (cap:Nat) (V:Nat→Value),v= .slice a ds.length cap∧(a=none→cap=0)∧(ds=[]∨ ∃b off,a=some ⟨b,off,none⟩∧b<w.heap.size∧ ∀i,i<ds.length→w.cell? ⟨b,off+i,none⟩=some (V i)∧Holds8 w (V i) (qbz ds i))
def qiO (m:Nat)(ds:List (List Int)):Prop:=ds.length≤m∧ ∀d∈ds,d.length≤m∧qid d
abbrev Yj:Type:=List (List Int)×List (List Int)
def Yf (ss:List Yj)(k:Nat):Yj:=ss.getD k ([],[])
def StepsAt (w:World)(v:Value)(ss:List Yj):Prop:=
  ∃(a:Option Addr) (cap:Nat) (U V:Nat→Value),v= .slice a ss.length cap∧(a=none→cap=0)∧(ss=[]∨ ∃b off,a=some ⟨b,off,none⟩∧b<w.heap.size∧ ∀i,i<ss.length→w.cell? ⟨b,off+i*2,none⟩=some (U i)∧w.cell? ⟨b,off+i*2+1,none⟩=some (V i)∧pRowsAt w (U i) (Yf ss i).1∧pRowsAt w (V i) (Yf ss i).2)
def qf0 (m:Nat)(ss:List Yj):Prop:=ss.length≤m∧ ∀s∈ss,qiO m s.1∧qiO m s.2
theorem pRowsAt.below {w w':World}{v:Value}{ds:List (List Int)}(h:pRowsAt w v ds)(o:Below w.heap.size w w'):pRowsAt w' v ds:=by
  obtain⟨a,G,V,rfl,I,h⟩:=h;refine⟨a,G,V,rfl,I,?_⟩;rcases h with h|⟨b,off,rfl,r,q⟩
  · exact .inl h
  · exact .inr ⟨b,off,rfl,Nat.lt_of_lt_of_le r o.size,fun i D=>⟨(o.cell (p:=⟨b,off+i,none⟩) r).trans (q i D).1,qS (q i D).2 o⟩⟩
theorem StepsAt.below {w w':World}{v:Value}{ss:List Yj}(h:StepsAt w v ss)(o:Below w.heap.size w w'):StepsAt w' v ss:=by
  obtain⟨a,G,U,V,rfl,I,h⟩:=h;refine⟨a,G,U,V,rfl,I,?_⟩;rcases h with h|⟨b,off,rfl,D,q⟩
  · exact .inl h
  · exact .inr ⟨b,off,rfl,Nat.lt_of_lt_of_le D o.size,fun i r=>⟨(o.cell (p:=⟨b,off+i*2,none⟩) D).trans (q i r).1,(o.cell (p:=⟨b,off+i*2+1,none⟩) D).trans (q i r).2.1,(q i r).2.2.1.below o,(q i r).2.2.2.below o⟩⟩
section
variable {H:Type} {enc:TypeId×Value→H} {P:Program} {w:World} {base:Nat} {held:Bool}
end
section
variable {H:Type} {enc:TypeId×Value→H} {w:World} {base fuel:Nat} {held:Bool}
instance:Inhabited Yj:=⟨([],[])⟩
end
end Go.Proofs.YthjoojnlnlmljaaGreat
