/- Every node's parameters. No condition. -/
import Derived.Test.YthjoojnlnlmljaaGreatP28
import Derived.Deep.RegionHeld3
set_option linter.all false
set_option maxRecDepth 100000
set_option maxHeartbeats 8000000
namespace Go.Proofs.YthjoojnlnlmljaaGreat
open Go.ChangeShapes Go.WideShapes Go.ChangeAt Go.RowKit Go.Joins Go.Shelf Go.Maps
open Go.Lib (hid)
attribute [local go_sem] Oper.semAt_some
theorem qaG {W:World}{b:Nat}{a0 a1 a2 a3 a4 a5 a6 a7 a8 a9 a10:Value}{T:TypeId}{fr:Nat×Nat}(h:W.heap[b]? =some (Obj.cells #[a0,a1,a2,a3,a4,a5,a6,a7,a8,a9,a10] T fr))(v0 v1 v2 v3 v4 v5 v6 v7 v8 v9 v10:Value):
    (((((((((((W.setCell ⟨b,0,none⟩ v0).setCell ⟨b,1,none⟩ v1).setCell ⟨b,2,none⟩ v2).setCell ⟨b,3,none⟩ v3).setCell ⟨b,4,none⟩ v4).setCell ⟨b,5,none⟩ v5).setCell ⟨b,6,none⟩ v6).setCell ⟨b,7,none⟩ v7).setCell ⟨b,8,none⟩ v8).setCell ⟨b,9,none⟩ v9).setCell ⟨b,10,none⟩ v10).heap[b]? =some (Obj.cells #[v0,v1,v2,v3,v4,v5,v6,v7,v8,v9,v10] T fr):=by
  have h0:(W.setCell ⟨b,0,none⟩ v0).heap[b]? =some (Obj.cells #[v0,a1,a2,a3,a4,a5,a6,a7,a8,a9,a10] T fr):=block_setCell h v0;have h1:((W.setCell ⟨b,0,none⟩ v0).setCell ⟨b,1,none⟩ v1).heap[b]? =some (Obj.cells #[v0,v1,a2,a3,a4,a5,a6,a7,a8,a9,a10] T fr):=block_setCell h0 v1;have h2:(((W.setCell ⟨b,0,none⟩ v0).setCell ⟨b,1,none⟩ v1).setCell ⟨b,2,none⟩ v2).heap[b]? =some (Obj.cells #[v0,v1,v2,a3,a4,a5,a6,a7,a8,a9,a10] T fr):=block_setCell h1 v2;have h3:((((W.setCell ⟨b,0,none⟩ v0).setCell ⟨b,1,none⟩ v1).setCell ⟨b,2,none⟩ v2).setCell ⟨b,3,none⟩ v3).heap[b]? =some (Obj.cells #[v0,v1,v2,v3,a4,a5,a6,a7,a8,a9,a10] T fr):=block_setCell h2 v3;have h4:(((((W.setCell ⟨b,0,none⟩ v0).setCell ⟨b,1,none⟩ v1).setCell ⟨b,2,none⟩ v2).setCell ⟨b,3,none⟩ v3).setCell ⟨b,4,none⟩ v4).heap[b]? =some (Obj.cells #[v0,v1,v2,v3,v4,a5,a6,a7,a8,a9,a10] T fr):=block_setCell h3 v4;have h5:((((((W.setCell ⟨b,0,none⟩ v0).setCell ⟨b,1,none⟩ v1).setCell ⟨b,2,none⟩ v2).setCell ⟨b,3,none⟩ v3).setCell ⟨b,4,none⟩ v4).setCell ⟨b,5,none⟩ v5).heap[b]? =some (Obj.cells #[v0,v1,v2,v3,v4,v5,a6,a7,a8,a9,a10] T fr):=block_setCell h4 v5;have h6:(((((((W.setCell ⟨b,0,none⟩ v0).setCell ⟨b,1,none⟩ v1).setCell ⟨b,2,none⟩ v2).setCell ⟨b,3,none⟩ v3).setCell ⟨b,4,none⟩ v4).setCell ⟨b,5,none⟩ v5).setCell ⟨b,6,none⟩ v6).heap[b]? =some (Obj.cells #[v0,v1,v2,v3,v4,v5,v6,a7,a8,a9,a10] T fr):=block_setCell h5 v6;have h7:((((((((W.setCell ⟨b,0,none⟩ v0).setCell ⟨b,1,none⟩ v1).setCell ⟨b,2,none⟩ v2).setCell ⟨b,3,none⟩ v3).setCell ⟨b,4,none⟩ v4).setCell ⟨b,5,none⟩ v5).setCell ⟨b,6,none⟩ v6).setCell ⟨b,7,none⟩ v7).heap[b]? =some (Obj.cells #[v0,v1,v2,v3,v4,v5,v6,v7,a8,a9,a10] T fr):=block_setCell h6 v7;have h8:(((((((((W.setCell ⟨b,0,none⟩ v0).setCell ⟨b,1,none⟩ v1).setCell ⟨b,2,none⟩ v2).setCell ⟨b,3,none⟩ v3).setCell ⟨b,4,none⟩ v4).setCell ⟨b,5,none⟩ v5).setCell ⟨b,6,none⟩ v6).setCell ⟨b,7,none⟩ v7).setCell ⟨b,8,none⟩ v8).heap[b]? =some (Obj.cells #[v0,v1,v2,v3,v4,v5,v6,v7,v8,a9,a10] T fr):=block_setCell h7 v8;have h9:((((((((((W.setCell ⟨b,0,none⟩ v0).setCell ⟨b,1,none⟩ v1).setCell ⟨b,2,none⟩ v2).setCell ⟨b,3,none⟩ v3).setCell ⟨b,4,none⟩ v4).setCell ⟨b,5,none⟩ v5).setCell ⟨b,6,none⟩ v6).setCell ⟨b,7,none⟩ v7).setCell ⟨b,8,none⟩ v8).setCell ⟨b,9,none⟩ v9).heap[b]? =some (Obj.cells #[v0,v1,v2,v3,v4,v5,v6,v7,v8,v9,a10] T fr):=block_setCell h8 v9;have h10:(((((((((((W.setCell ⟨b,0,none⟩ v0).setCell ⟨b,1,none⟩ v1).setCell ⟨b,2,none⟩ v2).setCell ⟨b,3,none⟩ v3).setCell ⟨b,4,none⟩ v4).setCell ⟨b,5,none⟩ v5).setCell ⟨b,6,none⟩ v6).setCell ⟨b,7,none⟩ v7).setCell ⟨b,8,none⟩ v8).setCell ⟨b,9,none⟩ v9).setCell ⟨b,10,none⟩ v10).heap[b]? =some (Obj.cells #[v0,v1,v2,v3,v4,v5,v6,v7,v8,v9,v10] T fr):=block_setCell h9 v10;exact h10
theorem jp {B:Nat}{a W:World}(h:Below B a W){b:Nat}(hb:B≤b)(v0 v1 v2 v3 v4 v5 v6 v7 v8 v9 v10:Value):
    Below B a (((((((((((W.setCell ⟨b,0,none⟩ v0).setCell ⟨b,1,none⟩ v1).setCell ⟨b,2,none⟩ v2).setCell ⟨b,3,none⟩ v3).setCell ⟨b,4,none⟩ v4).setCell ⟨b,5,none⟩ v5).setCell ⟨b,6,none⟩ v6).setCell ⟨b,7,none⟩ v7).setCell ⟨b,8,none⟩ v8).setCell ⟨b,9,none⟩ v9).setCell ⟨b,10,none⟩ v10):=
  (((((((((((h.setCell (p:=⟨b,0,none⟩) hb v0).setCell (p:=⟨b,1,none⟩) hb v1).setCell (p:=⟨b,2,none⟩) hb v2).setCell (p:=⟨b,3,none⟩) hb v3).setCell (p:=⟨b,4,none⟩) hb v4).setCell (p:=⟨b,5,none⟩) hb v5).setCell (p:=⟨b,6,none⟩) hb v6).setCell (p:=⟨b,7,none⟩) hb v7).setCell (p:=⟨b,8,none⟩) hb v8).setCell (p:=⟨b,9,none⟩) hb v9).setCell (p:=⟨b,10,none⟩) hb v10)
theorem jb {P:Program}{fn:Func}{tmps:Array Value}{W:World}{b:Nat}{v0 v1 v2 v3 v4 v5 v6 v7 v8 v9 v10 e:Value}{T:TypeId}{fr:Nat×Nat}
    (hr:fn.results= #[.cell 8 171,.tmp 9]) (h8:tmps[8]?.getD undef= .pointer (some ⟨b,0,none⟩)) (h9:tmps[9]?.getD undef=e)
    (hb:W.heap[b]? =some (Obj.cells #[v0,v1,v2,v3,v4,v5,v6,v7,v8,v9,v10] T fr)) (hP:P=Tryz.prog):
    (results fn tmps).run P W= .ok (.tuple #[.agg #[v0,v1,v2,v3,v4,v5,v6,v7,v8,v9,v10],e]) W:=by
  subst hP;have c0:=qd hb 0;have c1:=qd hb 1;have c2:=qd hb 2;have c3:=qd hb 3;have c4:=qd hb 4;have c5:=qd hb 5;have c6:=qd hb 6;have c7:=qd hb 7;have c8:=qd hb 8;have c9:=qd hb 9;have c10:=qd hb 10;simp only[List.getElem?_toArray,List.getElem?_cons_zero,List.getElem?_cons_succ]at c0 c1 c2 c3 c4 c5 c6 c7 c8 c9 c10;simp[results,hr,h8,h9,go_sem,c0,c1,c2,c3,c4,c5,c6,c7,c8,c9,c10]
theorem zQ {W:World}{b c:Nat}(h:c≠b)(v0 v1 v2 v3 v4 v5 v6 v7 v8 v9 v10:Value):(((((((((((W.setCell ⟨b,0,none⟩ v0).setCell ⟨b,1,none⟩ v1).setCell ⟨b,2,none⟩ v2).setCell ⟨b,3,none⟩ v3).setCell ⟨b,4,none⟩ v4).setCell ⟨b,5,none⟩ v5).setCell ⟨b,6,none⟩ v6).setCell ⟨b,7,none⟩ v7).setCell ⟨b,8,none⟩ v8).setCell ⟨b,9,none⟩ v9).setCell ⟨b,10,none⟩ v10).heap[c]? =W.heap[c]? :=
  (Below.heap_setCell _ _ _ _ h).trans ((Below.heap_setCell _ _ _ _ h).trans ((Below.heap_setCell _ _ _ _ h).trans ((Below.heap_setCell _ _ _ _ h).trans ((Below.heap_setCell _ _ _ _ h).trans ((Below.heap_setCell _ _ _ _ h).trans ((Below.heap_setCell _ _ _ _ h).trans ((Below.heap_setCell _ _ _ _ h).trans ((Below.heap_setCell _ _ _ _ h).trans ((Below.heap_setCell _ _ _ _ h).trans (Below.heap_setCell _ _ _ _ h))))))))))
theorem qda {W W':World}{base:Nat}{e:TypeId}{size:Nat}{v:Value}{n:Nat}{xs:List Value}(h:W.ownsRow base e size v n xs)(hb: ∀g,base≤g→g<W.heap.size→W'.heap[g]? =W.heap[g]?):W'.ownsRow base e size v n xs:=by
  refine⟨h.1,?_⟩;rcases h.2 with h2|⟨g,cap,cur,h1,h2,h3,h4⟩
  · exact .inl h2
  · exact .inr ⟨g,cap,cur,h1,h2,(hb g h2 (Ai h3).1).trans h3,h4⟩
theorem SideIs.same {W W':World}{base:Nat}{zs:List Int}{v:Value}(h:SideIs base W zs v)(hb: ∀g,base≤g→g<W.heap.size→W'.heap[g]? =W.heap[g]?):SideIs base W' zs v:=by
  rcases h with h|⟨h1,h2⟩
  · exact .inl h
  · exact .inr ⟨h1,qda h2 hb⟩
theorem qfX {W:World}{b:Nat}{a0 a1 a2 a3 a4 a5 a6 a7 a8 a9 a10:Value}{T:TypeId}(h:W.heap[b]? =some (Obj.cells #[a0,a1,a2,a3,a4,a5,a6,a7,a8,a9,a10] T (0,0))):
    W.cell? ⟨b,0,none⟩=some a0∧W.cell? ⟨b,1,none⟩=some a1∧W.cell? ⟨b,2,none⟩=some a2∧W.cell? ⟨b,3,none⟩=some a3∧W.cell? ⟨b,4,none⟩=some a4∧W.cell? ⟨b,5,none⟩=some a5∧W.cell? ⟨b,6,none⟩=some a6∧W.cell? ⟨b,7,none⟩=some a7∧W.cell? ⟨b,8,none⟩=some a8∧W.cell? ⟨b,9,none⟩=some a9∧W.cell? ⟨b,10,none⟩=some a10∧ ∀i,W.frozen? ⟨b,i,none⟩=false:=by
  have c0:=qd h 0;have c1:=qd h 1;have c2:=qd h 2;have c3:=qd h 3;have c4:=qd h 4;have c5:=qd h 5;have c6:=qd h 6;have c7:=qd h 7;have c8:=qd h 8;have c9:=qd h 9;have c10:=qd h 10;simp only[List.getElem?_toArray,List.getElem?_cons_zero,List.getElem?_cons_succ]at c0 c1 c2 c3 c4 c5 c6 c7 c8 c9 c10;exact⟨c0,c1,c2,c3,c4,c5,c6,c7,c8,c9,c10,fun i=>by simp[World.frozen?,h]⟩
theorem SideIs.form {W:World}{base:Nat}{zs:List Int}{v:Value}(h:SideIs base W zs v): ∃a n c,v= .slice a n c:=by
  rcases h with⟨h, -⟩|⟨-,h2⟩
  · exact⟨_,_,_,h⟩
  · rcases ownsRow_forms h2 with⟨h, -⟩|⟨g,cap,h⟩
    · exact⟨_,_,_,h⟩
    · exact⟨_,_,_,h⟩
theorem SideIs.le {W:World}{base base':Nat}{zs:List Int}{v:Value}(h:SideIs base W zs v)(hb:base'≤base):SideIs base' W zs v:=by
  rcases h with h|⟨h1,h2⟩
  · exact .inl h
  · exact .inr ⟨h1,ownsRow_le h2 hb⟩
def qbv (t:TreeV)(row:Int)(at_:Nat)(s p:Value):Value:= .agg #[.int .i64 t.d,.int .i64 t.kl,.int .i64 t.f,.int .i64 t.p,.int .u32 t.l,.int .u64 at_,.int .u32 0,.int .i64 row,.int .i64 t.i,s,p]
theorem qhE {W w1:World}{c b:Nat}(hlt:c<b)(h: ∀o,W.cell? ⟨c,o,none⟩=w1.cell? ⟨c,o,none⟩)(v0 v1 v2 v3 v4 v5 v6 v7 v8 v9 v10:Value)(o:Nat):(((((((((((W.setCell ⟨b,0,none⟩ v0).setCell ⟨b,1,none⟩ v1).setCell ⟨b,2,none⟩ v2).setCell ⟨b,3,none⟩ v3).setCell ⟨b,4,none⟩ v4).setCell ⟨b,5,none⟩ v5).setCell ⟨b,6,none⟩ v6).setCell ⟨b,7,none⟩ v7).setCell ⟨b,8,none⟩ v8).setCell ⟨b,9,none⟩ v9).setCell ⟨b,10,none⟩ v10).cell? ⟨c,o,none⟩=w1.cell? ⟨c,o,none⟩:=
  ((jp (Below.refl b W) (Nat.le_refl b) v0 v1 v2 v3 v4 v5 v6 v7 v8 v9 v10).cell (p:=⟨c,o,none⟩) hlt).trans (h o)
theorem qc3 (t:TreeV)(total:Nat)(row:Int)(at_:Nat){z0:Int}{z1 z2 z3:Int}{z4 z5:Bool}{sz pz:List Int}
    (H1:Hid (∀w,Calls Tryz.prog 52 #[t.val,.int .u64 total,.int .i64 row,.int .u64 at_] w fun r w'=>r= .returned (.tuple #[.agg #[.int .i64 z0,.int .u64 z1,.int .u64 z2,.int .u64 z3,.bool z4,.bool z5],.int .i64 0])∧Below w.heap.size w w')) (w:World)
    (hsz:Hid (Holds8 w (.slice t.sa t.sl t.sc) sz)) (hpz:Hid (Holds8 w (.slice t.pa t.pl t.pc) pz)) (hz1:Hid (∀z∈sz,0≤z∧z≤255)) (hz2:Hid (∀z∈pz,0≤z∧z≤255)) (hl1:Hid (sz.length≤65535)) (hl2:Hid (pz.length≤65535)):
    Calls Tryz.prog 137 #[t.val,.int .u64 total,.int .i64 row,.int .u64 at_] w fun r w'=> ∃s p,r= .returned (.tuple #[qbv t row at_ s p,.int .i64 0])∧SideIs w.heap.size w' sz s∧SideIs w.heap.size w' pz p∧Below w.heap.size w w':=by
  unfold TreeV.val qbv at*;go_enter Tryz.func137,Tryz.ntmps137
  go_wp2_with fail
  refine(H1.out _).mono ?_;rintro r w1 ⟨rfl,hb1⟩;obtain⟨hc,hf1⟩:=Q5 hb1;have hs1:=hb1.size;simp at hs1
  have k0:w.heap.size<w1.heap.size:=by omega
  have k1:w.heap.size+1<w1.heap.size:=by omega
  have b1:w1.heap[w.heap.size+1]? =some (Obj.cells #[.int .i64 0,.int .i64 0,.int .i64 0,.int .i64 0,.int .u32 0,.int .u64 0,.int .u32 0,.int .i64 0,.int .i64 0,.slice none 0 0,.slice none 0 0] 171 (0,0)):=by
    rw[hb1.block _ (by simp)];exact qD _ _ (by simp)
  have B1:=hid b1;have hBW:Below w.heap.size w w1:=qu _ (Below.trans (Br.alloc Nl _) (hb1.mono (by simp)));clear b1;go_wp2_with fail
  go_region_held3 (fun w'=> ∀o,w'.cell? ⟨w.heap.size,o,none⟩=w1.cell? ⟨w.heap.size,o,none⟩) (first|with_reducible assumption|with_reducible exact qhE (Nat.lt_succ_self _) K3 _ _ _ _ _ _ _ _ _ _ _|(intro o;exact((Below.refl _ w1).alloc Nl _).drew.cell (p:=⟨w.heap.size,o,none⟩) k0)|(intro o;exact(Below.refl _ w1).drew.cell (p:=⟨w.heap.size,o,none⟩) k0)) (first
    | (go_at_call_of 162 (Value.slice t.sa t.sl t.sc);refine(qec sz _ _ ?_ hz1.out hl1.out).mono ?_;exact qS hsz.out (hBW.trans (by first|exact((Below.refl _ w1).alloc Nl _).drew.mono (by omega)|exact(Below.refl _ w1).drew.mono (by omega)));rintro e w2 ⟨u,rfl,hu,hb2⟩;obtain⟨ua,un,uc,rfl⟩:=hu.form;have hB2:Below w1.heap.size w1 w2:=(by first|exact(((Below.refl _ w1).alloc Nl _).drew).trans (hb2.mono (by simp))|exact(Below.refl _ w1).drew.trans (hb2.mono (by simp)));have K2: ∀o,w2.cell? ⟨w.heap.size,o,none⟩=w1.cell? ⟨w.heap.size,o,none⟩:=fun o=>hB2.cell (p:=⟨w.heap.size,o,none⟩) k0;have hs2:=hB2.size;have hub:w1.heap.size≤w2.heap.size:=hs2)
    | (go_at_call_of 162 (Value.slice t.pa t.pl t.pc);refine(qec pz _ _ ?_ hz2.out hl2.out).mono ?_;exact qS hpz.out (hBW.trans (hB2.mono (by omega)));rintro e w3 ⟨p,rfl,hp,hb3⟩;obtain⟨pa,pn,pc,rfl⟩:=hp.form;have hB3:Below w1.heap.size w1 w3:=hB2.trans (hb3.mono hs2);have B3:=(hB3.block _ k1).trans B1.out;obtain⟨x0,x1,x2,x3,x4,x5,x6,x7,x8,x9,x10,xf⟩:=qfX B3;have B3:=hid B3;have K3: ∀o,w3.cell? ⟨w.heap.size,o,none⟩=w1.cell? ⟨w.heap.size,o,none⟩:=fun o=>hB3.cell (p:=⟨w.heap.size,o,none⟩) k0;have hs3:=hB3.size;clear hf1))
  go_wp2
  have hu1:=hu.le (base':=w1.heap.size) (by first|(show w1.heap.size≤(w1.alloc _).heap.size;simp)|exact Nat.le_refl _);have hp1:=hp.le (base':=w1.heap.size) hub;refine Bp (jb rfl rfl rfl (b:=w.heap.size+1) (T:=171) (fr:=(0,0)) (qaG B3.out _ _ _ _ _ _ _ _ _ _ _) rfl) rfl ⟨_,_,rfl,(hu1.same fun g g1 g2=>?_).le (by omega),(hp1.same fun g g1 g2=>?_).le (by omega),jp (hBW.trans (hB3.mono (by omega))) (by omega) _ _ _ _ _ _ _ _ _ _ _⟩
  · exact(zQ (by omega) _ _ _ _ _ _ _ _ _ _ _).trans (hb3.block g g2)
  · exact zQ (by omega) _ _ _ _ _ _ _ _ _ _ _
end Go.Proofs.YthjoojnlnlmljaaGreat
