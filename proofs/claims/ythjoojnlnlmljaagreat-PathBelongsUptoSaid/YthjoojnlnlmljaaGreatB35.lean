/- Every node's parameters. No condition. -/
import Derived.Test.YthjoojnlnlmljaaGreatP00
import Derived.Test.YthjoojnlnlmljaaGreatB06
import Derived.Test.YthjoojnlnlmljaaGreatB10
import Derived.Deep.RegionHeld3
set_option linter.all false
set_option maxRecDepth 100000
set_option maxHeartbeats 8000000
namespace Go.Proofs.YthjoojnlnlmljaaGreat
open Go.ChangeShapes Go.WideShapes Go.ChangeAt Go.RowKit Go.Joins Go.Shelf Go.Maps
open Go.Lib (hid)
attribute [local go_sem] Oper.semAt_some
theorem qa6 {W:World}{b:Nat}{a0 a1 a2 a3 a4 a5 a6 Z V U G:Value}{T:TypeId}{fr:Nat×Nat}(h:W.heap[b]? =some (Obj.cells #[a0,a1,a2,a3,a4,a5,a6,Z,V,U,G] T fr))(o q r D I J O S X v9 Y:Value):
    (((((((((((W.setCell ⟨b,0,none⟩ o).setCell ⟨b,1,none⟩ q).setCell ⟨b,2,none⟩ r).setCell ⟨b,3,none⟩ D).setCell ⟨b,4,none⟩ I).setCell ⟨b,5,none⟩ J).setCell ⟨b,6,none⟩ O).setCell ⟨b,7,none⟩ S).setCell ⟨b,8,none⟩ X).setCell ⟨b,9,none⟩ v9).setCell ⟨b,10,none⟩ Y).heap[b]? =some (Obj.cells #[o,q,r,D,I,J,O,S,X,v9,Y] T fr):=by
  have h0:(W.setCell ⟨b,0,none⟩ o).heap[b]? =some (Obj.cells #[o,a1,a2,a3,a4,a5,a6,Z,V,U,G] T fr):=block_setCell h o;have h1:((W.setCell ⟨b,0,none⟩ o).setCell ⟨b,1,none⟩ q).heap[b]? =some (Obj.cells #[o,q,a2,a3,a4,a5,a6,Z,V,U,G] T fr):=block_setCell h0 q;have h2:(((W.setCell ⟨b,0,none⟩ o).setCell ⟨b,1,none⟩ q).setCell ⟨b,2,none⟩ r).heap[b]? =some (Obj.cells #[o,q,r,a3,a4,a5,a6,Z,V,U,G] T fr):=block_setCell h1 r;have h3:((((W.setCell ⟨b,0,none⟩ o).setCell ⟨b,1,none⟩ q).setCell ⟨b,2,none⟩ r).setCell ⟨b,3,none⟩ D).heap[b]? =some (Obj.cells #[o,q,r,D,a4,a5,a6,Z,V,U,G] T fr):=block_setCell h2 D;have h4:(((((W.setCell ⟨b,0,none⟩ o).setCell ⟨b,1,none⟩ q).setCell ⟨b,2,none⟩ r).setCell ⟨b,3,none⟩ D).setCell ⟨b,4,none⟩ I).heap[b]? =some (Obj.cells #[o,q,r,D,I,a5,a6,Z,V,U,G] T fr):=block_setCell h3 I;have h5:((((((W.setCell ⟨b,0,none⟩ o).setCell ⟨b,1,none⟩ q).setCell ⟨b,2,none⟩ r).setCell ⟨b,3,none⟩ D).setCell ⟨b,4,none⟩ I).setCell ⟨b,5,none⟩ J).heap[b]? =some (Obj.cells #[o,q,r,D,I,J,a6,Z,V,U,G] T fr):=block_setCell h4 J;have h6:(((((((W.setCell ⟨b,0,none⟩ o).setCell ⟨b,1,none⟩ q).setCell ⟨b,2,none⟩ r).setCell ⟨b,3,none⟩ D).setCell ⟨b,4,none⟩ I).setCell ⟨b,5,none⟩ J).setCell ⟨b,6,none⟩ O).heap[b]? =some (Obj.cells #[o,q,r,D,I,J,O,Z,V,U,G] T fr):=block_setCell h5 O;have h7:((((((((W.setCell ⟨b,0,none⟩ o).setCell ⟨b,1,none⟩ q).setCell ⟨b,2,none⟩ r).setCell ⟨b,3,none⟩ D).setCell ⟨b,4,none⟩ I).setCell ⟨b,5,none⟩ J).setCell ⟨b,6,none⟩ O).setCell ⟨b,7,none⟩ S).heap[b]? =some (Obj.cells #[o,q,r,D,I,J,O,S,V,U,G] T fr):=block_setCell h6 S;have h8:(((((((((W.setCell ⟨b,0,none⟩ o).setCell ⟨b,1,none⟩ q).setCell ⟨b,2,none⟩ r).setCell ⟨b,3,none⟩ D).setCell ⟨b,4,none⟩ I).setCell ⟨b,5,none⟩ J).setCell ⟨b,6,none⟩ O).setCell ⟨b,7,none⟩ S).setCell ⟨b,8,none⟩ X).heap[b]? =some (Obj.cells #[o,q,r,D,I,J,O,S,X,U,G] T fr):=block_setCell h7 X;have h9:((((((((((W.setCell ⟨b,0,none⟩ o).setCell ⟨b,1,none⟩ q).setCell ⟨b,2,none⟩ r).setCell ⟨b,3,none⟩ D).setCell ⟨b,4,none⟩ I).setCell ⟨b,5,none⟩ J).setCell ⟨b,6,none⟩ O).setCell ⟨b,7,none⟩ S).setCell ⟨b,8,none⟩ X).setCell ⟨b,9,none⟩ v9).heap[b]? =some (Obj.cells #[o,q,r,D,I,J,O,S,X,v9,G] T fr):=block_setCell h8 v9;have aa:(((((((((((W.setCell ⟨b,0,none⟩ o).setCell ⟨b,1,none⟩ q).setCell ⟨b,2,none⟩ r).setCell ⟨b,3,none⟩ D).setCell ⟨b,4,none⟩ I).setCell ⟨b,5,none⟩ J).setCell ⟨b,6,none⟩ O).setCell ⟨b,7,none⟩ S).setCell ⟨b,8,none⟩ X).setCell ⟨b,9,none⟩ v9).setCell ⟨b,10,none⟩ Y).heap[b]? =some (Obj.cells #[o,q,r,D,I,J,O,S,X,v9,Y] T fr):=block_setCell h9 Y;exact aa
theorem jA {B:Nat}{a W:World}(h:Below B a W){b:Nat}(o:B≤b)(r D G I O V U X J S q:Value):
    Below B a (((((((((((W.setCell ⟨b,0,none⟩ r).setCell ⟨b,1,none⟩ D).setCell ⟨b,2,none⟩ G).setCell ⟨b,3,none⟩ I).setCell ⟨b,4,none⟩ O).setCell ⟨b,5,none⟩ V).setCell ⟨b,6,none⟩ U).setCell ⟨b,7,none⟩ X).setCell ⟨b,8,none⟩ J).setCell ⟨b,9,none⟩ S).setCell ⟨b,10,none⟩ q):=
  (((((((((((h.setCell (p:=⟨b,0,none⟩) o r).setCell (p:=⟨b,1,none⟩) o D).setCell (p:=⟨b,2,none⟩) o G).setCell (p:=⟨b,3,none⟩) o I).setCell (p:=⟨b,4,none⟩) o O).setCell (p:=⟨b,5,none⟩) o V).setCell (p:=⟨b,6,none⟩) o U).setCell (p:=⟨b,7,none⟩) o X).setCell (p:=⟨b,8,none⟩) o J).setCell (p:=⟨b,9,none⟩) o S).setCell (p:=⟨b,10,none⟩) o q)
theorem jp {P:Program}{fn:Func}{tmps:Array Value}{W:World}{b:Nat}{v0 v1 D S V v5 v6 Y U X q e:Value}{T:TypeId}{fr:Nat×Nat}
    (hr:fn.results= #[.cell 8 171,.tmp 9]) (h8:tmps[8]?.getD undef= .pointer (some ⟨b,0,none⟩)) (h9:tmps[9]?.getD undef=e)
    (o:W.heap[b]? =some (Obj.cells #[v0,v1,D,S,V,v5,v6,Y,U,X,q] T fr)) (hP:P=Tryz.prog):
    (results fn tmps).run P W= .ok (.tuple #[.agg #[v0,v1,D,S,V,v5,v6,Y,U,X,q],e]) W:=by
  subst hP;have G:=qd o 0;have c1:=qd o 1;have c2:=qd o 2;have I:=qd o 3;have J:=qd o 4;have c5:=qd o 5;have Z:=qd o 6;have c7:=qd o 7;have c8:=qd o 8;have O:=qd o 9;have r:=qd o 10;simp only[List.getElem?_toArray,List.getElem?_cons_zero,List.getElem?_cons_succ]at G c1 c2 I J c5 Z c7 c8 O r;simp[results,hr,h8,h9,go_sem,G,c1,c2,I,J,c5,Z,c7,c8,O,r]
theorem Zg {W:World}{b c:Nat}(h:c≠b)(q r G I O V U D J S o:Value):(((((((((((W.setCell ⟨b,0,none⟩ q).setCell ⟨b,1,none⟩ r).setCell ⟨b,2,none⟩ G).setCell ⟨b,3,none⟩ I).setCell ⟨b,4,none⟩ O).setCell ⟨b,5,none⟩ V).setCell ⟨b,6,none⟩ U).setCell ⟨b,7,none⟩ D).setCell ⟨b,8,none⟩ J).setCell ⟨b,9,none⟩ S).setCell ⟨b,10,none⟩ o).heap[c]? =W.heap[c]? :=
  (Below.heap_setCell _ _ _ _ h).trans ((Below.heap_setCell _ _ _ _ h).trans ((Below.heap_setCell _ _ _ _ h).trans ((Below.heap_setCell _ _ _ _ h).trans ((Below.heap_setCell _ _ _ _ h).trans ((Below.heap_setCell _ _ _ _ h).trans ((Below.heap_setCell _ _ _ _ h).trans ((Below.heap_setCell _ _ _ _ h).trans ((Below.heap_setCell _ _ _ _ h).trans ((Below.heap_setCell _ _ _ _ h).trans (Below.heap_setCell _ _ _ _ h))))))))))
theorem qdK {W W':World}{base:Nat}{e:TypeId}{size:Nat}{v:Value}{n:Nat}{xs:List Value}(h:W.ownsRow base e size v n xs)(J: ∀g,base≤g→g<W.heap.size→W'.heap[g]? =W.heap[g]?):W'.ownsRow base e size v n xs:=by
  refine⟨h.1,?_⟩;rcases h.2 with o|⟨g,D,q,G,o,r,I⟩
  · exact .inl o
  · exact .inr ⟨g,D,q,G,o,(J g o (Ai r).1).trans r,I⟩
theorem SideIs.same {W W':World}{base:Nat}{zs:List Int}{v:Value}(h:SideIs base W zs v)(r: ∀g,base≤g→g<W.heap.size→W'.heap[g]? =W.heap[g]?):SideIs base W' zs v:=by
  rcases h with h|⟨o,q⟩
  · exact .inl h
  · exact .inr ⟨o,qdK q r⟩
theorem qgW {W:World}{b:Nat}{a0 a1 a2 G U S a6 V r a9 o:Value}{T:TypeId}(h:W.heap[b]? =some (Obj.cells #[a0,a1,a2,G,U,S,a6,V,r,a9,o] T (0,0))):
    W.cell? ⟨b,0,none⟩=some a0∧W.cell? ⟨b,1,none⟩=some a1∧W.cell? ⟨b,2,none⟩=some a2∧W.cell? ⟨b,3,none⟩=some G∧W.cell? ⟨b,4,none⟩=some U∧W.cell? ⟨b,5,none⟩=some S∧W.cell? ⟨b,6,none⟩=some a6∧W.cell? ⟨b,7,none⟩=some V∧W.cell? ⟨b,8,none⟩=some r∧W.cell? ⟨b,9,none⟩=some a9∧W.cell? ⟨b,10,none⟩=some o∧ ∀i,W.frozen? ⟨b,i,none⟩=false:=by
  have D:=qd h 0;have c1:=qd h 1;have c2:=qd h 2;have I:=qd h 3;have J:=qd h 4;have Z:=qd h 5;have X:=qd h 6;have c7:=qd h 7;have Y:=qd h 8;have O:=qd h 9;have q:=qd h 10;simp only[List.getElem?_toArray,List.getElem?_cons_zero,List.getElem?_cons_succ]at D c1 c2 I J Z X c7 Y O q;exact⟨D,c1,c2,I,J,Z,X,c7,Y,O,q,fun i=>by simp[World.frozen?,h]⟩
theorem SideIs.form {W:World}{base:Nat}{zs:List Int}{v:Value}(h:SideIs base W zs v): ∃a n c,v= .slice a n c:=by
  rcases h with⟨h, -⟩|⟨-,o⟩
  · exact⟨_,_,_,h⟩
  · rcases ownsRow_forms o with⟨h, -⟩|⟨g,q,h⟩
    · exact⟨_,_,_,h⟩
    · exact⟨_,_,_,h⟩
theorem SideIs.le {W:World}{base base':Nat}{zs:List Int}{v:Value}(h:SideIs base W zs v)(r:base'≤base):SideIs base' W zs v:=by
  rcases h with h|⟨o,q⟩
  · exact .inl h
  · exact .inr ⟨o,ownsRow_le q r⟩
def qan (t:TreeV)(row:Int)(at_:Nat)(s p:Value):Value:= .agg #[.int .i64 t.d,.int .i64 t.kl,.int .i64 t.f,.int .i64 t.p,.int .u32 t.l,.int .u64 at_,.int .u32 0,.int .i64 row,.int .i64 t.i,s,p]
theorem qiG {W w1:World}{c b:Nat}(O:c<b)(h: ∀o,W.cell? ⟨c,o,none⟩=w1.cell? ⟨c,o,none⟩)(r D I J U Y X G S V q:Value)(o:Nat):(((((((((((W.setCell ⟨b,0,none⟩ r).setCell ⟨b,1,none⟩ D).setCell ⟨b,2,none⟩ I).setCell ⟨b,3,none⟩ J).setCell ⟨b,4,none⟩ U).setCell ⟨b,5,none⟩ Y).setCell ⟨b,6,none⟩ X).setCell ⟨b,7,none⟩ G).setCell ⟨b,8,none⟩ S).setCell ⟨b,9,none⟩ V).setCell ⟨b,10,none⟩ q).cell? ⟨c,o,none⟩=w1.cell? ⟨c,o,none⟩:=
  ((jA (Below.refl b W) (Nat.le_refl b) r D I J U Y X G S V q).cell (p:=⟨c,o,none⟩) O).trans (h o)
theorem qho (t:TreeV)(total:Nat)(row:Int)(at_:Nat){z0:Int}{z1 z2 z3:Int}{z4 z5:Bool}{O I:List Int}
    (H1:Hid (∀w,Calls Tryz.prog 105 #[t.val,.int .u64 total,.int .i64 row,.int .u64 at_] w fun r w'=>r= .returned (.tuple #[.agg #[.int .i64 z0,.int .u64 z1,.int .u64 z2,.int .u64 z3,.bool z4,.bool z5],.int .i64 0])∧Below w.heap.size w w')) (w:World)
    (ad:Hid (Holds8 w (.slice t.sa t.sl t.sc) O)) (ai:Hid (Holds8 w (.slice t.pa t.pl t.pc) I)) (aa:Hid (∀z∈O,0≤z∧z≤255)) (ak:Hid (∀z∈I,0≤z∧z≤255)) (ab:Hid (O.length≤65535)) (ae:Hid (I.length≤65535)):
    Calls Tryz.prog 157 #[t.val,.int .u64 total,.int .i64 row,.int .u64 at_] w fun r w'=> ∃s p,r= .returned (.tuple #[qan t row at_ s p,.int .i64 0])∧SideIs w.heap.size w' O s∧SideIs w.heap.size w' I p∧Below w.heap.size w w':=by
  unfold TreeV.val qan at*;go_enter Tryz.func157,Tryz.ntmps157
  go_wp2_with fail
  refine(H1.out _).mono ?_;rintro r w1 ⟨rfl,D⟩;obtain⟨hc,ah⟩:=yS D;have ac:=D.size;simp at ac
  have U:w.heap.size<w1.heap.size:=by omega
  have k1:w.heap.size+1<w1.heap.size:=by omega
  have b1:w1.heap[w.heap.size+1]? =some (Obj.cells Kb 171 (0,0)):=by
    rw[D.block _ (by simp)];exact qz _ _ (by simp)
  have B1:=hid b1;have J:Below w.heap.size w w1:=qt _ (Below.trans (Br.alloc Nl _) (D.mono (by simp)));clear b1;go_wp2_with fail
  go_region_held3 (fun w'=> ∀o,w'.cell? ⟨w.heap.size,o,none⟩=w1.cell? ⟨w.heap.size,o,none⟩) (first|with_reducible assumption|with_reducible exact qiG (Nat.lt_succ_self _) K3 _ _ _ _ _ _ _ _ _ _ _|(intro o;exact((Below.refl _ w1).alloc Nl _).drew.cell (p:=⟨w.heap.size,o,none⟩) U)|(intro o;exact(Below.refl _ w1).drew.cell (p:=⟨w.heap.size,o,none⟩) U)) (first
    | (go_at_call_of 182 (Value.slice t.sa t.sl t.sc);refine(qek O _ _ ?_ aa.out ab.out).mono ?_;exact qN ad.out (J.trans (by first|exact((Below.refl _ w1).alloc Nl _).drew.mono (by omega)|exact(Below.refl _ w1).drew.mono (by omega)));rintro e Z ⟨u,rfl,hu,X⟩;obtain⟨ua,un,uc,rfl⟩:=hu.form;have G:Below w1.heap.size w1 Z:=(by first|exact(((Below.refl _ w1).alloc Nl _).drew).trans (X.mono (by simp))|exact(Below.refl _ w1).drew.trans (X.mono (by simp)));have K2: ∀o,Z.cell? ⟨w.heap.size,o,none⟩=w1.cell? ⟨w.heap.size,o,none⟩:=fun o=>G.cell (p:=⟨w.heap.size,o,none⟩) U;have Y:=G.size;have ag:w1.heap.size≤Z.heap.size:=Y)
    | (go_at_call_of 182 (Value.slice t.pa t.pl t.pc);refine(qek I _ _ ?_ ak.out ae.out).mono ?_;exact qN ai.out (J.trans (G.mono (by omega)));rintro e w3 ⟨p,rfl,hp,V⟩;obtain⟨pa,pn,pc,rfl⟩:=hp.form;have q:Below w1.heap.size w1 w3:=G.trans (V.mono Y);have S:=(q.block _ k1).trans B1.out;obtain⟨x0,x1,x2,x3,x4,x5,x6,x7,x8,x9,am,xf⟩:=qgW S;have S:=hid S;have K3: ∀o,w3.cell? ⟨w.heap.size,o,none⟩=w1.cell? ⟨w.heap.size,o,none⟩:=fun o=>q.cell (p:=⟨w.heap.size,o,none⟩) U;have al:=q.size;clear ah))
  go_wp2
  have af:=hu.le (base':=w1.heap.size) (by first|(show w1.heap.size≤(w1.alloc _).heap.size;simp)|exact Nat.le_refl _);have aj:=hp.le (base':=w1.heap.size) ag;refine Bp (jp rfl rfl rfl (b:=w.heap.size+1) (T:=171) (fr:=(0,0)) (qa6 S.out _ _ _ _ _ _ _ _ _ _ _) rfl) rfl ⟨_,_,rfl,(af.same fun g g1 g2=>?_).le (by omega),(aj.same fun g g1 g2=>?_).le (by omega),jA (J.trans (q.mono (by omega))) (by omega) _ _ _ _ _ _ _ _ _ _ _⟩
  · exact(Zg (by omega) _ _ _ _ _ _ _ _ _ _ _).trans (V.block g g2)
  · exact Zg (by omega) _ _ _ _ _ _ _ _ _ _ _
theorem qdD (t:TreeV)(total:Nat)(row:Int)(at_:Nat){z0:Int}{z1 z2 z3:Int}{z4 z5:Bool}{O I:List Int}
    (H1:Hid (∀w,Calls Tryz.prog 52 #[t.val,.int .u64 total,.int .i64 row,.int .u64 at_] w fun r w'=>r= .returned (.tuple #[.agg #[.int .i64 z0,.int .u64 z1,.int .u64 z2,.int .u64 z3,.bool z4,.bool z5],.int .i64 0])∧Below w.heap.size w w')) (w:World)
    (ad:Hid (Holds8 w (.slice t.sa t.sl t.sc) O)) (ai:Hid (Holds8 w (.slice t.pa t.pl t.pc) I)) (aa:Hid (∀z∈O,0≤z∧z≤255)) (ak:Hid (∀z∈I,0≤z∧z≤255)) (ab:Hid (O.length≤65535)) (ae:Hid (I.length≤65535)):
    Calls Tryz.prog 137 #[t.val,.int .u64 total,.int .i64 row,.int .u64 at_] w fun r w'=> ∃s p,r= .returned (.tuple #[qan t row at_ s p,.int .i64 0])∧SideIs w.heap.size w' O s∧SideIs w.heap.size w' I p∧Below w.heap.size w w':=by
  unfold TreeV.val qan at*;go_enter Tryz.func137,Tryz.ntmps137
  go_wp2_with fail
  refine(H1.out _).mono ?_;rintro r w1 ⟨rfl,D⟩;obtain⟨hc,ah⟩:=yS D;have ac:=D.size;simp at ac
  have U:w.heap.size<w1.heap.size:=by omega
  have k1:w.heap.size+1<w1.heap.size:=by omega
  have b1:w1.heap[w.heap.size+1]? =some (Obj.cells Kb 171 (0,0)):=by
    rw[D.block _ (by simp)];exact qz _ _ (by simp)
  have B1:=hid b1;have J:Below w.heap.size w w1:=qt _ (Below.trans (Br.alloc Nl _) (D.mono (by simp)));clear b1;go_wp2_with fail
  go_region_held3 (fun w'=> ∀o,w'.cell? ⟨w.heap.size,o,none⟩=w1.cell? ⟨w.heap.size,o,none⟩) (first|with_reducible assumption|with_reducible exact qiG (Nat.lt_succ_self _) K3 _ _ _ _ _ _ _ _ _ _ _|(intro o;exact((Below.refl _ w1).alloc Nl _).drew.cell (p:=⟨w.heap.size,o,none⟩) U)|(intro o;exact(Below.refl _ w1).drew.cell (p:=⟨w.heap.size,o,none⟩) U)) (first
    | (go_at_call_of 162 (Value.slice t.sa t.sl t.sc);refine(qeU O _ _ ?_ aa.out ab.out).mono ?_;exact qN ad.out (J.trans (by first|exact((Below.refl _ w1).alloc Nl _).drew.mono (by omega)|exact(Below.refl _ w1).drew.mono (by omega)));rintro e Z ⟨u,rfl,hu,X⟩;obtain⟨ua,un,uc,rfl⟩:=hu.form;have G:Below w1.heap.size w1 Z:=(by first|exact(((Below.refl _ w1).alloc Nl _).drew).trans (X.mono (by simp))|exact(Below.refl _ w1).drew.trans (X.mono (by simp)));have K2: ∀o,Z.cell? ⟨w.heap.size,o,none⟩=w1.cell? ⟨w.heap.size,o,none⟩:=fun o=>G.cell (p:=⟨w.heap.size,o,none⟩) U;have Y:=G.size;have ag:w1.heap.size≤Z.heap.size:=Y)
    | (go_at_call_of 162 (Value.slice t.pa t.pl t.pc);refine(qeU I _ _ ?_ ak.out ae.out).mono ?_;exact qN ai.out (J.trans (G.mono (by omega)));rintro e w3 ⟨p,rfl,hp,V⟩;obtain⟨pa,pn,pc,rfl⟩:=hp.form;have q:Below w1.heap.size w1 w3:=G.trans (V.mono Y);have S:=(q.block _ k1).trans B1.out;obtain⟨x0,x1,x2,x3,x4,x5,x6,x7,x8,x9,am,xf⟩:=qgW S;have S:=hid S;have K3: ∀o,w3.cell? ⟨w.heap.size,o,none⟩=w1.cell? ⟨w.heap.size,o,none⟩:=fun o=>q.cell (p:=⟨w.heap.size,o,none⟩) U;have al:=q.size;clear ah))
  go_wp2
  have af:=hu.le (base':=w1.heap.size) (by first|(show w1.heap.size≤(w1.alloc _).heap.size;simp)|exact Nat.le_refl _);have aj:=hp.le (base':=w1.heap.size) ag;refine Bp (jp rfl rfl rfl (b:=w.heap.size+1) (T:=171) (fr:=(0,0)) (qa6 S.out _ _ _ _ _ _ _ _ _ _ _) rfl) rfl ⟨_,_,rfl,(af.same fun g g1 g2=>?_).le (by omega),(aj.same fun g g1 g2=>?_).le (by omega),jA (J.trans (q.mono (by omega))) (by omega) _ _ _ _ _ _ _ _ _ _ _⟩
  · exact(Zg (by omega) _ _ _ _ _ _ _ _ _ _ _).trans (V.block g g2)
  · exact Zg (by omega) _ _ _ _ _ _ _ _ _ _ _
end Go.Proofs.YthjoojnlnlmljaaGreat
