/- A message with another ZL in a leaf's place: plain; bytes of one's own with one byte turned; a copy of bytes. No condition. -/
import Derived.Test.YthjoojnlnlmljaaGreatP43
import Derived.Test.YthjoojnlnlmljaaGreatP44
import Derived.Test.YthjoojnlnlmljaaGreatP45
import Derived.Test.YthjoojnlnlmljaaGreatP38
set_option linter.all false
set_option maxRecDepth 100000
set_option maxHeartbeats 8000000
namespace Go.Proofs.YthjoojnlnlmljaaGreat
open Go.ChangeShapes Go.WideShapes Go.ChangeAt Go.RowKit Go.Joins Go.Shelf Go.Maps
open Go.Lib (hid)
attribute [local go_sem] Oper.semAt_some
theorem gp {a0 A:Act}{x:Tmp→Value}{ds:List Tmp}{gs:List (Value→World→Prop)}{D:List Oper}{W:World}{o:Array Edge}{q:Value→World→Prop}{r:Oper}(I:Zm a0 x ds A)
  (G: ∀e∈o,Region.binds .any e=true→ ∀r,D[e.on]? =some r→QN gs e.on (qJ x r) W) (i s:Nat)
  (V:s∈ds:=by decide) (J:(⟨i,.data⟩:Edge)∈o:=by simp) (U:D[i]? =some r:=by rfl) (O:qJ x r=x s:=by rfl) (X:QN gs i=q:=by rfl):q (A.tmps.getD s undef) W:=by
 have:=G _ J rfl r U
 rw[X,O]at this;rw[I.1 s V];exact this
theorem OwnB.open {B:Nat}{w:World}{x:Value}{z:List Int}(h:OwnB B w x z)(I:0<z.length): ∃g o q,x= .slice (some ⟨g,0,none⟩) z.length o∧B≤g∧w.heap[g]? =some (.cells q 5 (0,0))∧z.length≤o∧o≤q.size∧ ∀j,j<z.length→w.cell? ⟨g,j,none⟩=some (.int .u8 (qr z j)):=by
 rcases h.2 with⟨rfl, -⟩|⟨g,o,q,rfl,U,D,O,J,V,G⟩
 ·simp at I
 ·refine⟨g,o,q,rfl,U,D,O,J,fun j r=>?_⟩;rw[qd D j];have e:q.toList[j]? =(z.map qt)[j]? :=by rw[←G,List.getElem?_take,if_pos r]
  rw[←Array.getElem?_toList,e,List.getElem?_map,List.getElem?_eq_getElem r];simp[qt,qr,Lg,r]
theorem OwnB.set {B g q i:Nat}{w:World}{ys:List Int}{z:Int}(h:OwnB B w (.slice (some ⟨g,0,none⟩) ys.length q) ys)(Z:i<ys.length)(I:0≤z∧z≤255):OwnB B (w.setCell ⟨g,i,none⟩ (.int .u8 z)) (.slice (some ⟨g,0,none⟩) (ys.set i z).length q) (ys.set i z):=by
 refine⟨fun a V=>?_,?_⟩
 ·rcases List.mem_or_eq_of_mem_set V with o|o
  ·exact h.1 a o
  ·rw[o];exact I
 ·rcases h.2 with⟨-,e⟩|⟨Y,O,r,e,o,G,U,J,X,D⟩
  ·cases e
  ·simp only[Value.slice.injEq,Option.some.injEq,Addr.mk.injEq,and_true,true_and]at e;obtain⟨rfl,rfl⟩:=e;refine .inr ⟨g,q,r.setIfInBounds i (.int .u8 z),rfl,o,block_setCell G _,by rw[List.length_set];exact U,by simpa using J,X,?_⟩;rw[List.length_set,Array.toList_setIfInBounds,List.take_set,D,List.map_set];rfl
theorem qdr (zs:List Int)(v:Value)(w:World)(h:Hold w v zs)(hn:zs.length≤70368744177664):
  Calls Tryz.prog 27 #[v] w fun e w'=> ∃u,e= .returned u∧w'.ownsRow w.heap.size 5 1 u zs.length (zs.map qt)∧Below w.heap.size w w':=by
 obtain⟨i0,Y,O,U,J⟩:=info_parts Qr;obtain⟨D,o⟩:=Ex w.heap.size;have G:Below D w (w.alloc (.cells #[] 5)):=by rw[←o];exact Br.alloc Nl _
 have Z:=hid (h.below (o▸G)).src;have HB:=hid h.1;have r:(w.alloc (.cells #[] 5)).ownsRow D 5 1 (.slice (some ⟨D,0,none⟩) 0 0) 0 []:=⟨rfl,.inr ⟨D,0,#[],rfl,Nat.le_refl _,by rw[←o];exact Wn _ _,Nat.le_refl _,Nat.zero_le _,rfl,rfl⟩⟩;obtain⟨a,c,rfl, -, -⟩:=h.slice;have I:=hid r;have X:=hid G;clear h r G;go_enter Tryz.func27,Tryz.ntmps27
 go_wp2_with (at_builtin;(try rw[o]);refine qT rfl _ _ _ rfl w D o.symm X.out 5 i0 (.int .u8 0) 1 Tryz.underlying24 Y O U J rfl _ 0 [] rfl I.out _ _ _ rfl Z.out (by unfold maxLen;omega) (by omega) ?_;intro v' w' q V)
 go_ret
 rw[Nat.zero_add,List.nil_append]at q;exact⟨_,rfl,by rw[o];exact q,by rw[o];exact V⟩
theorem qen (zs:List Int)(v:Value)(w:World)(h:Hold w v zs)(r:zs.length≤70368744177664):
  Calls Tryz.prog 27 #[v] w fun e w'=> ∃u,e= .returned u∧OwnB w.heap.size w' u zs∧Below w.heap.size w w':=by
 refine(qdr zs v w h r).mono ?_;rintro e D ⟨u,rfl,o,q⟩;exact⟨u,rfl,⟨h.1,yI o⟩,q⟩
theorem qhD (xs ys:List Int)(u v:Value)(w:World)(o:Hold w u xs)(q:Hold w v ys):
  Calls Tryz.prog 35 #[u,v] w fun e w'=>e= .returned (.bool (decide (xs=ys)))∧ ∃m,w'=w.drewN m:=by
 have H:=hid (qe1 xs ys u v w o q);clear o q;go_enter Tryz.func35,Tryz.ntmps35
 go_wp2_with fail
 refine H.out.mono ?_;rintro e w1 ⟨rfl,m,rfl⟩;go_wp2
 go_ret
 exact⟨rfl,m,rfl⟩
end Go.Proofs.YthjoojnlnlmljaaGreat
