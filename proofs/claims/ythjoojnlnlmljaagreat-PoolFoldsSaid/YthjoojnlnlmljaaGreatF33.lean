/- The leaves' calls and outputs, by the reference. No condition. -/
import Derived.Test.YthjoojnlnlmljaaGreatF30
import Derived.Test.YthjoojnlnlmljaaGreatF32
import Derived.Test.YthjoojnlnlmljaaGreatF04
set_option linter.all false
set_option maxRecDepth 100000
set_option maxHeartbeats 8000000
namespace Go.Proofs.YthjoojnlnlmljaaGreat
open Go.ChangeShapes Go.WideShapes Go.ChangeAt Go.RowKit Go.Joins Go.Shelf Go.Maps
attribute [local go_sem] Oper.semAt_some
theorem qey {t:TreeV}{kz z1 z2:List Int}{w:World}(h:TreeOk t kz z1 z2 w){row at_:Nat}(hr:row≤255)(O:at_<281474976710656)(o q:Bool)(ds:List Int)(G I D:Value)(W:World)(b:Nat)
  (U:W.ownsRow b 5 1 I (mB t.big) ((t.blk z1 z2 row at_).map qp)) (X:Hold W D (Jb row kz)) (hd:Hold W G ds) (hl:ds.length≤1073741824):
  Calls Tryz.prog 85 #[.agg (ZQ t.k I D o (t.outN q) G)] W fun e w'=> ∃u,e= .returned (.tuple #[u,.int .i64 0])∧OwnB W.heap.size w' u (t.node kz z1 z2 row at_ o q ds)∧Below W.heap.size W w':=by
 obtain⟨Y,J,Z,h4⟩:=h.okD hr O;rw[←YW h.v];have h5:=h4 q;refine(qeA t.big _ _ ds o _ I D G W (Qn U Z) X hd (by omega) Y J (by omega)).mono ?_;rintro e w' ⟨⟨u,rfl,V⟩,S⟩
 exact⟨u,rfl,⟨zC t kz z1 z2 row at_ o q ds,V⟩,S⟩
theorem keyH {t:TreeV}{kz z1 z2:List Int}{w W:World}(h:TreeOk t kz z1 z2 w)(row:Nat)(o:Below w.heap.size w W)(B:Nat):KeepH w B W (qeR row (.slice t.ka t.kl t.kc)) (Jb row kz)∧ ∃a n c,qeR row (.slice t.ka t.kl t.kc)= .slice a n c:=by
 unfold qeR Jb;split
 ·exact⟨.inr ⟨h.k,o⟩,_,_,_,rfl⟩
 ·exact⟨.inl ⟨fun _ h=>by simp at h,.inl ⟨rfl,rfl⟩⟩,_,_,_,rfl⟩
end Go.Proofs.YthjoojnlnlmljaaGreat
