/- Lemmas. No condition. -/
import Derived.Test.YtahenngmaoellaaGreatO06
import Derived.Test.YtahenngmaoellaaGreatO10
import Derived.Deep.RegionHeld3
set_option linter.all false
set_option maxRecDepth 100000
set_option maxHeartbeats 0
namespace Go.Proofs.YtahenngmaoellaaGreat
open Go.ChangeShapes Go.WideShapes Go.ChangeAt Go.RowKit Go.Joins Go.Shelf Go.Maps
open Go.Lib (hid)
variable{W W':World}{b c base:Nat}{a0 V U I O Y S v:Value}{T:TypeId}{fr:Nat×Nat}{zs J:List Int}{z0 z1 z2 z3:Int}{z4 z5:Bool}
attribute [local go_sem] Oper.semAt_some
theorem qbi {a1 a2 a3 a4 a5 a6 Z:Value}(h:W.heap[b]? =some (Obj.cells #[a0,a1,a2,a3,a4,a5,a6,Z,V,U,I] T fr))(o q r D G J O S X v9 Y:Value):
    (((((((((((W.setCell ⟨b,0,none⟩ o).setCell ⟨b,1,none⟩ q).setCell ⟨b,2,none⟩ r).setCell ⟨b,3,none⟩ D).setCell ⟨b,4,none⟩ G).setCell ⟨b,5,none⟩ J).setCell ⟨b,6,none⟩ O).setCell ⟨b,7,none⟩ S).setCell ⟨b,8,none⟩ X).setCell ⟨b,9,none⟩ v9).setCell ⟨b,10,none⟩ Y).heap[b]? =some (Obj.cells #[o,q,r,D,G,J,O,S,X,v9,Y] T fr):=by
  have h0:(W.setCell ⟨b,0,none⟩ o).heap[b]? =some (Obj.cells #[o,a1,a2,a3,a4,a5,a6,Z,V,U,I] T fr):=block_setCell h o;have h1:((W.setCell ⟨b,0,none⟩ o).setCell ⟨b,1,none⟩ q).heap[b]? =some (Obj.cells #[o,q,a2,a3,a4,a5,a6,Z,V,U,I] T fr):=block_setCell h0 q;have h2:(((W.setCell ⟨b,0,none⟩ o).setCell ⟨b,1,none⟩ q).setCell ⟨b,2,none⟩ r).heap[b]? =some (Obj.cells #[o,q,r,a3,a4,a5,a6,Z,V,U,I] T fr):=block_setCell h1 r;have h3:((((W.setCell ⟨b,0,none⟩ o).setCell ⟨b,1,none⟩ q).setCell ⟨b,2,none⟩ r).setCell ⟨b,3,none⟩ D).heap[b]? =some (Obj.cells #[o,q,r,D,a4,a5,a6,Z,V,U,I] T fr):=block_setCell h2 D;have h4:(((((W.setCell ⟨b,0,none⟩ o).setCell ⟨b,1,none⟩ q).setCell ⟨b,2,none⟩ r).setCell ⟨b,3,none⟩ D).setCell ⟨b,4,none⟩ G).heap[b]? =some (Obj.cells #[o,q,r,D,G,a5,a6,Z,V,U,I] T fr):=block_setCell h3 G;have h5:((((((W.setCell ⟨b,0,none⟩ o).setCell ⟨b,1,none⟩ q).setCell ⟨b,2,none⟩ r).setCell ⟨b,3,none⟩ D).setCell ⟨b,4,none⟩ G).setCell ⟨b,5,none⟩ J).heap[b]? =some (Obj.cells #[o,q,r,D,G,J,a6,Z,V,U,I] T fr):=block_setCell h4 J;have h6:(((((((W.setCell ⟨b,0,none⟩ o).setCell ⟨b,1,none⟩ q).setCell ⟨b,2,none⟩ r).setCell ⟨b,3,none⟩ D).setCell ⟨b,4,none⟩ G).setCell ⟨b,5,none⟩ J).setCell ⟨b,6,none⟩ O).heap[b]? =some (Obj.cells #[o,q,r,D,G,J,O,Z,V,U,I] T fr):=block_setCell h5 O;have h7:((((((((W.setCell ⟨b,0,none⟩ o).setCell ⟨b,1,none⟩ q).setCell ⟨b,2,none⟩ r).setCell ⟨b,3,none⟩ D).setCell ⟨b,4,none⟩ G).setCell ⟨b,5,none⟩ J).setCell ⟨b,6,none⟩ O).setCell ⟨b,7,none⟩ S).heap[b]? =some (Obj.cells #[o,q,r,D,G,J,O,S,V,U,I] T fr):=block_setCell h6 S;have h8:(((((((((W.setCell ⟨b,0,none⟩ o).setCell ⟨b,1,none⟩ q).setCell ⟨b,2,none⟩ r).setCell ⟨b,3,none⟩ D).setCell ⟨b,4,none⟩ G).setCell ⟨b,5,none⟩ J).setCell ⟨b,6,none⟩ O).setCell ⟨b,7,none⟩ S).setCell ⟨b,8,none⟩ X).heap[b]? =some (Obj.cells #[o,q,r,D,G,J,O,S,X,U,I] T fr):=block_setCell h7 X;have h9:((((((((((W.setCell ⟨b,0,none⟩ o).setCell ⟨b,1,none⟩ q).setCell ⟨b,2,none⟩ r).setCell ⟨b,3,none⟩ D).setCell ⟨b,4,none⟩ G).setCell ⟨b,5,none⟩ J).setCell ⟨b,6,none⟩ O).setCell ⟨b,7,none⟩ S).setCell ⟨b,8,none⟩ X).setCell ⟨b,9,none⟩ v9).heap[b]? =some (Obj.cells #[o,q,r,D,G,J,O,S,X,v9,I] T fr):=block_setCell h8 v9;have aa:(((((((((((W.setCell ⟨b,0,none⟩ o).setCell ⟨b,1,none⟩ q).setCell ⟨b,2,none⟩ r).setCell ⟨b,3,none⟩ D).setCell ⟨b,4,none⟩ G).setCell ⟨b,5,none⟩ J).setCell ⟨b,6,none⟩ O).setCell ⟨b,7,none⟩ S).setCell ⟨b,8,none⟩ X).setCell ⟨b,9,none⟩ v9).setCell ⟨b,10,none⟩ Y).heap[b]? =some (Obj.cells #[o,q,r,D,G,J,O,S,X,v9,Y] T fr):=block_setCell h9 Y;exact aa
theorem jO {B:Nat}{a:World}(h:Below B a W)(o:B<=b)(D r V I G X S J U O q:Value):
    Below B a (((((((((((W.setCell ⟨b,0,none⟩ D).setCell ⟨b,1,none⟩ r).setCell ⟨b,2,none⟩ V).setCell ⟨b,3,none⟩ I).setCell ⟨b,4,none⟩ G).setCell ⟨b,5,none⟩ X).setCell ⟨b,6,none⟩ S).setCell ⟨b,7,none⟩ J).setCell ⟨b,8,none⟩ U).setCell ⟨b,9,none⟩ O).setCell ⟨b,10,none⟩ q):=
  (((((((((((h.setCell (p:=⟨b,0,none⟩) o D).setCell (p:=⟨b,1,none⟩) o r).setCell (p:=⟨b,2,none⟩) o V).setCell (p:=⟨b,3,none⟩) o I).setCell (p:=⟨b,4,none⟩) o G).setCell (p:=⟨b,5,none⟩) o X).setCell (p:=⟨b,6,none⟩) o S).setCell (p:=⟨b,7,none⟩) o J).setCell (p:=⟨b,8,none⟩) o U).setCell (p:=⟨b,9,none⟩) o O).setCell (p:=⟨b,10,none⟩) o q)
theorem jD {P:Program}{fn:Func}{tmps:Array Value}{v2 v5 J v7 v9 q e:Value}
    (hr:fn.results= #[.cell 8 179,.tmp 9]) (h8:tmps[8]?.getD undef= .pointer (some ⟨b,0,none⟩)) (h9:tmps[9]?.getD undef=e)
    (o:W.heap[b]? =some (Obj.cells #[O,Y,v2,U,S,v5,J,v7,V,v9,q] T fr)) (hP:P=Tryz.prog):
    (results fn tmps).run P W= .ok (.tuple #[.agg #[O,Y,v2,U,S,v5,J,v7,V,v9,q],e]) W:=by
  subst hP;have Z:=qd o 0;have c1:=qd o 1;have c2:=qd o 2;have c3:=qd o 3;have X:=qd o 4;have G:=qd o 5;have c6:=qd o 6;have c7:=qd o 7;have I:=qd o 8;have D:=qd o 9;have r:=qd o 10;simp only[List.getElem?_toArray,List.getElem?_cons_zero,List.getElem?_cons_succ]at Z c1 c2 c3 X G c6 c7 I D r;simp[results,hr,h8,h9,go_sem,Z,c1,c2,c3,X,G,c6,c7,I,D,r]
theorem Zt (h:c≠b)(r q V G D U O I S J o:Value):(((((((((((W.setCell ⟨b,0,none⟩ r).setCell ⟨b,1,none⟩ q).setCell ⟨b,2,none⟩ V).setCell ⟨b,3,none⟩ G).setCell ⟨b,4,none⟩ D).setCell ⟨b,5,none⟩ U).setCell ⟨b,6,none⟩ O).setCell ⟨b,7,none⟩ I).setCell ⟨b,8,none⟩ S).setCell ⟨b,9,none⟩ J).setCell ⟨b,10,none⟩ o).heap[c]? =W.heap[c]? :=
  (Below.heap_setCell _ _ _ _ h).trans ((Below.heap_setCell _ _ _ _ h).trans ((Below.heap_setCell _ _ _ _ h).trans ((Below.heap_setCell _ _ _ _ h).trans ((Below.heap_setCell _ _ _ _ h).trans ((Below.heap_setCell _ _ _ _ h).trans ((Below.heap_setCell _ _ _ _ h).trans ((Below.heap_setCell _ _ _ _ h).trans ((Below.heap_setCell _ _ _ _ h).trans ((Below.heap_setCell _ _ _ _ h).trans (Below.heap_setCell _ _ _ _ h))))))))))
theorem qd1 {e:TypeId}{size:Nat}{n:Nat}{xs:List Value}(h:W.ownsRow base e size v n xs)(I: ∀g,base<=g->g<W.heap.size->W'.heap[g]? =W.heap[g]?):W'.ownsRow base e size v n xs:=by
  refine⟨h.1,?_⟩;rcases h.2 with o|⟨g,D,q,G,o,r,J⟩
  · exact .inl o
  · exact .inr ⟨g,D,q,G,o,(I g o (Ai r).1).trans r,J⟩
theorem SideIs.same (h:SideIs base W zs v)(q: ∀g,base<=g->g<W.heap.size->W'.heap[g]? =W.heap[g]?):SideIs base W' zs v:=by
  rcases h with h|⟨o,r⟩
  · exact .inl h
  · exact .inr ⟨o,qd1 r q⟩
theorem qhi {a1 a2 X a7 o:Value}(h:W.heap[b]? =some (Obj.cells #[a0,a1,a2,X,O,Y,S,a7,I,V,o] T (0,0))):
    W.cell? ⟨b,0,none⟩=some a0/\W.cell? ⟨b,1,none⟩=some a1/\W.cell? ⟨b,2,none⟩=some a2/\W.cell? ⟨b,3,none⟩=some X/\W.cell? ⟨b,4,none⟩=some O/\W.cell? ⟨b,5,none⟩=some Y/\W.cell? ⟨b,6,none⟩=some S/\W.cell? ⟨b,7,none⟩=some a7/\W.cell? ⟨b,8,none⟩=some I/\W.cell? ⟨b,9,none⟩=some V/\W.cell? ⟨b,10,none⟩=some o/\ ∀i,W.frozen? ⟨b,i,none⟩=false:=by
  have U:=qd h 0;have c1:=qd h 1;have c2:=qd h 2;have c3:=qd h 3;have J:=qd h 4;have D:=qd h 5;have c6:=qd h 6;have Z:=qd h 7;have G:=qd h 8;have r:=qd h 9;have q:=qd h 10;simp only[List.getElem?_toArray,List.getElem?_cons_zero,List.getElem?_cons_succ]at U c1 c2 c3 J D c6 Z G r q;exact⟨U,c1,c2,c3,J,D,c6,Z,G,r,q,fun i=>by simp[World.frozen?,h]⟩
theorem SideIs.form (h:SideIs base W zs v): ∃a n c,v= .slice a n c:=by
  rcases h with⟨h, -⟩|⟨-,o⟩
  · exact⟨_,_,_,h⟩
  · rcases ownsRow_forms o with⟨h, -⟩|⟨g,q,h⟩
    · exact⟨_,_,_,h⟩
    · exact⟨_,_,_,h⟩
theorem SideIs.le {base':Nat}(h:SideIs base W zs v)(q:base'<=base):SideIs base' W zs v:=by
  rcases h with h|⟨o,r⟩
  · exact .inl h
  · exact .inr ⟨o,ownsRow_le r q⟩
def JK (t:TreeV)(row:Int)(at_:Nat)(s p:Value):Value:= .agg #[.int .i64 t.d,.int .i64 t.kl,.int .i64 t.f,.int .i64 t.p,.int .u32 t.l,.int .u64 at_,.int .u32 0,.int .i64 row,.int .i64 t.i,s,p]
theorem qi3 {w1:World}(r:c<b)(h: ∀o,W.cell? ⟨c,o,none⟩=w1.cell? ⟨c,o,none⟩)(G D Y J I X U O V S q:Value)(o:Nat):(((((((((((W.setCell ⟨b,0,none⟩ G).setCell ⟨b,1,none⟩ D).setCell ⟨b,2,none⟩ Y).setCell ⟨b,3,none⟩ J).setCell ⟨b,4,none⟩ I).setCell ⟨b,5,none⟩ X).setCell ⟨b,6,none⟩ U).setCell ⟨b,7,none⟩ O).setCell ⟨b,8,none⟩ V).setCell ⟨b,9,none⟩ S).setCell ⟨b,10,none⟩ q).cell? ⟨c,o,none⟩=w1.cell? ⟨c,o,none⟩:=
  ((jO (Below.refl b W) (Nat.le_refl b) G D Y J I X U O V S q).cell (p:=⟨c,o,none⟩) r).trans (h o)
theorem qhK (t:TreeV)(total:Nat)(row:Int)(at_:Nat){O:List Int}
    (H1:Hid (∀w,Calls Tryz.prog 92 #[t.val,.int .u64 total,.int .i64 row,.int .u64 at_] w fun r w'=>r= .returned (.tuple #[.agg #[.int .i64 z0,.int .u64 z1,.int .u64 z2,.int .u64 z3,.bool z4,.bool z5],.int .i64 0])/\Below w.heap.size w w')) (w:World)
    (aj:Hid (Holds8 w (.slice t.sa t.sl t.sc) J)) (ak:Hid (Holds8 w (.slice t.pa t.pl t.pc) O)) (ag:Hid (∀z∈J,0<=z/\z<=255)) (ai:Hid (∀z∈O,0<=z/\z<=255)) (ab:Hid (J.length<=65535)) (ae:Hid (O.length<=65535)):
    Calls Tryz.prog 130 #[t.val,.int .u64 total,.int .i64 row,.int .u64 at_] w fun r w'=> ∃s p,r= .returned (.tuple #[JK t row at_ s p,.int .i64 0])/\SideIs w.heap.size w' J s/\SideIs w.heap.size w' O p/\Below w.heap.size w w':=by
  unfold TreeV.val JK at*;go_enter Tryz.func130,Tryz.ntmps130
  go_wp2_with fail
  refine(H1.out _).mono ?_;rintro r w1 ⟨rfl,D⟩;obtain⟨hc,aa⟩:=Q5 D;have ah:=D.size;simp at ah
  have S:w.heap.size<w1.heap.size:=by omega
  have k1:w.heap.size+1<w1.heap.size:=by omega
  have b1:w1.heap[w.heap.size+1]? =some (Obj.cells Kb 179 (0,0)):=by
    rw[D.block _ (by simp)];exact qB _ _ (by simp)
  have B1:=hid b1;have I:Below w.heap.size w w1:=qs _ (Below.trans (Br.alloc Nl _) (D.mono (by simp)));clear b1;go_wp2_with fail
  go_region_held3 (fun w'=> ∀o,w'.cell? ⟨w.heap.size,o,none⟩=w1.cell? ⟨w.heap.size,o,none⟩) (first|with_reducible assumption|with_reducible exact qi3 (Nat.lt_succ_self _) K3 _ _ _ _ _ _ _ _ _ _ _|(intro o;exact((Below.refl _ w1).alloc Nl _).drew.cell (p:=⟨w.heap.size,o,none⟩) S)|(intro o;exact(Below.refl _ w1).drew.cell (p:=⟨w.heap.size,o,none⟩) S)) (first
    | (go_at_call_of 163 (Value.slice t.sa t.sl t.sc);refine(qeA J _ _ ?_ ag.out ab.out).mono ?_;exact qU aj.out (I.trans (by first|exact((Below.refl _ w1).alloc Nl _).drew.mono (by omega)|exact(Below.refl _ w1).drew.mono (by omega)));rintro e Z ⟨u,rfl,hu,Y⟩;obtain⟨ua,un,uc,rfl⟩:=hu.form;have q:Below w1.heap.size w1 Z:=(by first|exact(((Below.refl _ w1).alloc Nl _).drew).trans (Y.mono (by simp))|exact(Below.refl _ w1).drew.trans (Y.mono (by simp)));have K2: ∀o,Z.cell? ⟨w.heap.size,o,none⟩=w1.cell? ⟨w.heap.size,o,none⟩:=fun o=>q.cell (p:=⟨w.heap.size,o,none⟩) S;have X:=q.size;have ac:w1.heap.size<=Z.heap.size:=X)
    | (go_at_call_of 163 (Value.slice t.pa t.pl t.pc);refine(qeA O _ _ ?_ ai.out ae.out).mono ?_;exact qU ak.out (I.trans (q.mono (by omega)));rintro e w3 ⟨p,rfl,hp,V⟩;obtain⟨pa,pn,pc,rfl⟩:=hp.form;have G:Below w1.heap.size w1 w3:=q.trans (V.mono X);have U:=(G.block _ k1).trans B1.out;obtain⟨x0,x1,x2,x3,x4,x5,x6,x7,x8,x9,al,xf⟩:=qhi U;have U:=hid U;have K3: ∀o,w3.cell? ⟨w.heap.size,o,none⟩=w1.cell? ⟨w.heap.size,o,none⟩:=fun o=>G.cell (p:=⟨w.heap.size,o,none⟩) S;have am:=G.size;clear aa))
  go_wp2
  have ad:=hu.le (base':=w1.heap.size) (by first|(show w1.heap.size<=(w1.alloc _).heap.size;simp)|exact Nat.le_refl _);have af:=hp.le (base':=w1.heap.size) ac;refine Bp (jD rfl rfl rfl (b:=w.heap.size+1) (T:=179) (fr:=(0,0)) (qbi U.out _ _ _ _ _ _ _ _ _ _ _) rfl) rfl ⟨_,_,rfl,(ad.same fun g g1 g2=>?_).le (by omega),(af.same fun g g1 g2=>?_).le (by omega),jO (I.trans (G.mono (by omega))) (by omega) _ _ _ _ _ _ _ _ _ _ _⟩
  · exact(Zt (by omega) _ _ _ _ _ _ _ _ _ _ _).trans (V.block g g2)
  · exact Zt (by omega) _ _ _ _ _ _ _ _ _ _ _
theorem JZ (t:TreeV)(total:Nat)(row:Int)(at_:Nat){O:List Int}
    (H1:Hid (∀w,Calls Tryz.prog 54 #[t.val,.int .u64 total,.int .i64 row,.int .u64 at_] w fun r w'=>r= .returned (.tuple #[.agg #[.int .i64 z0,.int .u64 z1,.int .u64 z2,.int .u64 z3,.bool z4,.bool z5],.int .i64 0])/\Below w.heap.size w w')) (w:World)
    (aj:Hid (Holds8 w (.slice t.sa t.sl t.sc) J)) (ak:Hid (Holds8 w (.slice t.pa t.pl t.pc) O)) (ag:Hid (∀z∈J,0<=z/\z<=255)) (ai:Hid (∀z∈O,0<=z/\z<=255)) (ab:Hid (J.length<=65535)) (ae:Hid (O.length<=65535)):
    Calls Tryz.prog 132 #[t.val,.int .u64 total,.int .i64 row,.int .u64 at_] w fun r w'=> ∃s p,r= .returned (.tuple #[JK t row at_ s p,.int .i64 0])/\SideIs w.heap.size w' J s/\SideIs w.heap.size w' O p/\Below w.heap.size w w':=by
  unfold TreeV.val JK at*;go_enter Tryz.func132,Tryz.ntmps132
  go_wp2_with fail
  refine(H1.out _).mono ?_;rintro r w1 ⟨rfl,D⟩;obtain⟨hc,aa⟩:=Q5 D;have ah:=D.size;simp at ah
  have S:w.heap.size<w1.heap.size:=by omega
  have k1:w.heap.size+1<w1.heap.size:=by omega
  have b1:w1.heap[w.heap.size+1]? =some (Obj.cells Kb 179 (0,0)):=by
    rw[D.block _ (by simp)];exact qB _ _ (by simp)
  have B1:=hid b1;have I:Below w.heap.size w w1:=qs _ (Below.trans (Br.alloc Nl _) (D.mono (by simp)));clear b1;go_wp2_with fail
  go_region_held3 (fun w'=> ∀o,w'.cell? ⟨w.heap.size,o,none⟩=w1.cell? ⟨w.heap.size,o,none⟩) (first|with_reducible assumption|with_reducible exact qi3 (Nat.lt_succ_self _) K3 _ _ _ _ _ _ _ _ _ _ _|(intro o;exact((Below.refl _ w1).alloc Nl _).drew.cell (p:=⟨w.heap.size,o,none⟩) S)|(intro o;exact(Below.refl _ w1).drew.cell (p:=⟨w.heap.size,o,none⟩) S)) (first
    | (go_at_call_of 164 (Value.slice t.sa t.sl t.sc);refine(qfh J _ _ ?_ ag.out ab.out).mono ?_;exact qU aj.out (I.trans (by first|exact((Below.refl _ w1).alloc Nl _).drew.mono (by omega)|exact(Below.refl _ w1).drew.mono (by omega)));rintro e Z ⟨u,rfl,hu,Y⟩;obtain⟨ua,un,uc,rfl⟩:=hu.form;have q:Below w1.heap.size w1 Z:=(by first|exact(((Below.refl _ w1).alloc Nl _).drew).trans (Y.mono (by simp))|exact(Below.refl _ w1).drew.trans (Y.mono (by simp)));have K2: ∀o,Z.cell? ⟨w.heap.size,o,none⟩=w1.cell? ⟨w.heap.size,o,none⟩:=fun o=>q.cell (p:=⟨w.heap.size,o,none⟩) S;have X:=q.size;have ac:w1.heap.size<=Z.heap.size:=X)
    | (go_at_call_of 164 (Value.slice t.pa t.pl t.pc);refine(qfh O _ _ ?_ ai.out ae.out).mono ?_;exact qU ak.out (I.trans (q.mono (by omega)));rintro e w3 ⟨p,rfl,hp,V⟩;obtain⟨pa,pn,pc,rfl⟩:=hp.form;have G:Below w1.heap.size w1 w3:=q.trans (V.mono X);have U:=(G.block _ k1).trans B1.out;obtain⟨x0,x1,x2,x3,x4,x5,x6,x7,x8,x9,al,xf⟩:=qhi U;have U:=hid U;have K3: ∀o,w3.cell? ⟨w.heap.size,o,none⟩=w1.cell? ⟨w.heap.size,o,none⟩:=fun o=>G.cell (p:=⟨w.heap.size,o,none⟩) S;have am:=G.size;clear aa))
  go_wp2
  have ad:=hu.le (base':=w1.heap.size) (by first|(show w1.heap.size<=(w1.alloc _).heap.size;simp)|exact Nat.le_refl _);have af:=hp.le (base':=w1.heap.size) ac;refine Bp (jD rfl rfl rfl (b:=w.heap.size+1) (T:=179) (fr:=(0,0)) (qbi U.out _ _ _ _ _ _ _ _ _ _ _) rfl) rfl ⟨_,_,rfl,(ad.same fun g g1 g2=>?_).le (by omega),(af.same fun g g1 g2=>?_).le (by omega),jO (I.trans (G.mono (by omega))) (by omega) _ _ _ _ _ _ _ _ _ _ _⟩
  · exact(Zt (by omega) _ _ _ _ _ _ _ _ _ _ _).trans (V.block g g2)
  · exact Zt (by omega) _ _ _ _ _ _ _ _ _ _ _
