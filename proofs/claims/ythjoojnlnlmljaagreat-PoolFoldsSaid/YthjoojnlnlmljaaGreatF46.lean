/- Slices of numbers that came in. No condition. -/
import Derived.Test.YthjoojnlnlmljaaGreatF40
set_option linter.all false
set_option maxRecDepth 100000
set_option maxHeartbeats 8000000
namespace Go.Proofs.YthjoojnlnlmljaaGreat
open Go.ChangeShapes Go.WideShapes Go.ChangeAt Go.RowKit Go.Joins Go.Shelf Go.Maps
def qfy (w:World)(v:Value)(L:List Int):Prop:=
 (∀z∈L, -9223372036854775808≤z∧z≤9223372036854775807)∧ ∃a cap,v= .slice a L.length cap∧L.length≤cap∧(cap:Int)≤9223372036854775807∧(L=[]∨ ∃b off,a=some ⟨b,off,none⟩∧b<w.heap.size∧ ∀i,i<L.length→w.cell? ⟨b,off+i,none⟩=some (.int .i64 (qn L i)))
theorem qgb {H:Type}{enc:TypeId×Value→H}{w:World}{base fuel:Nat}{I:Bool}{c:Value}{x:DataW H×List MemPlace}
  (h:DataW.trod enc Tryz.prog w base (fun _=>true) I fuel 48 [c]=some x) (O: ∀p∈x.2,p.block<w.heap.size):
  ∃L,qfy w c L∧L.length≤Rows.uptoBulk x.1:=by
 rcases open_ints Tryz.underlying48 Tryz.underlying3 zO h with⟨q,J⟩|⟨a,o,S,zs,q,hb,hl,hm,hz,J,G,V⟩
 ·simp only[List.cons.injEq,and_true]at q;subst q;exact⟨[],⟨fun _ h=>(by cases h),none,0,rfl,Nat.le_refl _,by omega,.inl rfl⟩,Nat.zero_le _⟩
 ·simp only[List.cons.injEq,and_true]at q;subst q;simp at hz
  have D:(zs.take o).length=o:=by rw[List.length_take];omega
  refine⟨zs.take o,⟨fun z X=>bounds_i64 (V z (List.mem_of_mem_take X)),some a,S,by rw[D],by omega,by unfold maxLen at hm;omega,?_⟩,?_⟩
  ·by_cases h0:o=0
   ·exact .inl (by rw[h0];rfl)
   ·obtain⟨b,off,rfl,U⟩:=ints_at G (by omega);refine .inr ⟨b,off,rfl,?_,?_⟩
    ·have Z:MemPlace.cell b off∈x.2:=by
      rw[J];simp only[MemPlace.row];exact List.mem_map.2 ⟨0,by simp;omega,by simp⟩
     exact O _ Z
    ·intro i Y;rw[D]at Y;rw[U i (by omega)];unfold qn;simp[Y]
  ·rw[J];simp only[Rows.uptoBulk];have:=qbc (lits (H:=H) .i64 (zs.take o))
   have e:(lits (H:=H) .i64 (zs.take o)).length=(zs.take o).length:=by simp[lits]
   omega
theorem qeK {H:Type}{enc:TypeId×Value→H}{w:World}{base O:Nat}{r:Reach}{q:Bool}{v:Value}{d:DataW H}{G:List MemPlace}
  (I:Value.okWide Tryz.prog w r O 48 v) (h:DataW.Trod enc Tryz.prog w base (fun _=>true) q 48 v d G) (D: ∀p∈G,p.block<w.heap.size):
  ∃L,qfy w v L∧L.length≤Rows.uptoBulk d:=by
 obtain⟨fuel,J⟩:=h;obtain⟨o,n,c,rfl⟩:=okWide_slice Tryz.underlying48 I;exact qgb J D
end Go.Proofs.YthjoojnlnlmljaaGreat
