/- A block's words, by the program and by the reference: the big kind. No condition. -/
import Derived.Test.YthjoojnlnlmljaaGreatP00
import Derived.Test.YthjoojnlnlmljaaGreatB06
import Derived.Test.YthjoojnlnlmljaaGreatB22
import Derived.Laws.MakeOwn
import Derived.Test.YthjoojnlnlmljaaGreatB15
import Derived.Deep.RegionHeld3
import Derived.Laws.AppendOwnNone
set_option linter.all false
set_option maxRecDepth 100000
set_option maxHeartbeats 8000000
namespace Go.Proofs.YthjoojnlnlmljaaGreat
open Go.ChangeShapes Go.WideShapes Go.ChangeAt Go.RowKit Go.Joins Go.Shelf Go.Maps
open Go.Lib (hid)
attribute [local go_sem] Oper.semAt_some
def Q3 (n c:Nat)(zs:List Int):List Int:=(List.range c).map fun i=>qO zs (n*i) n
def yR (n c:Nat)(zs:List Int):Nat→List Int
 | 0=>List.replicate c 0
 | j+1=>(yR n c zs j).set j (qO zs (n*j) n)
theorem yO (n c:Nat)(zs:List Int): ∀j,(yR n c zs j).length=c
 | 0=>by simp[yR]
 | j+1=>by simp[yR,yO n c zs j]
theorem qe4 (n c:Nat)(zs:List Int): ∀j i,i<j→i<c→(yR n c zs j)[i]? =some (qO zs (n*i) n)
 | j+1,i,h,hc=>by
  simp only[yR];by_cases e:i=j
  ·subst e;rw[List.getElem?_set_self (by rw[yO];exact hc)]
  ·rw[List.getElem?_set_ne (Ne.symm e)];exact qe4 n c zs j i (by omega) hc
theorem jV (n c:Nat)(zs:List Int):yR n c zs c=Q3 n c zs:=by
 apply List.ext_getElem?
 intro i;by_cases h:i<c
 ·rw[qe4 n c zs c i h h];simp[Q3,h]
 ·rw[List.getElem?_eq_none (by rw[yO];omega),List.getElem?_eq_none (by simp[Q3];omega)]
theorem ym (n c:Nat){zs:List Int}(q: ∀z∈zs,0≤z∧z≤255)(r:zs.length=n*c):Words (8*n) c (Q3 n c zs):=by
 refine⟨by simp[Q3],fun x o=>?_⟩;simp only[Q3,List.mem_map,List.mem_range]at o;obtain⟨i,hi,rfl⟩:=o;have:n*i+n≤n*c:=by
  rw[←Nat.mul_succ];exact Nat.mul_le_mul_left n hi
 exact Qy q n (by omega)
theorem Holds8.slice {w:World}{v:Value}{zs:List Int}(h:Holds8 w v zs): ∃a o,v= .slice a zs.length o:=by
 obtain⟨a,o,e, -⟩:=h;exact⟨a,o,e⟩
theorem qbW (zs:List Int)(v:Value)(at_:Nat)(w:World)(h:Holds8 w v zs)(o: ∀z∈zs,0≤z∧z≤255)(r:at_+8≤zs.length)(q:zs.length≤4294967296):
  Calls Tryz.prog 90 #[v,.int .i64 at_] w fun e w'=>e= .returned (.tuple #[.int .u64 (qO zs at_ 8),.int .i64 0])∧w'=w:=by
 have H:=hid (qc3 zs v at_ w h o r q);go_enter Tryz.func90,Tryz.ntmps90
 go_wp2_with fail
 refine H.out.mono ?_;rintro e w1 ⟨rfl,rfl⟩;go_wp2
 exact Bp (results_tmp2 rfl _ _ _) rfl ⟨rfl,rfl⟩
theorem qft (zs:List Int)(v:Value)(w:World)(h:Holds8 w v zs)(hz: ∀z∈zs,0≤z∧z≤255)(V:zs.length=128):
  Calls Tryz.prog 198 #[v] w fun e w'=>e= .returned (.tuple #[.agg (qj .u64 (Q3 8 16 zs)),.int .i64 0])∧Below w.heap.size w w':=by
 obtain⟨a,ac,rfl⟩:=h.slice;obtain⟨q,Y⟩:=Ex w.heap.size;have H:=hid h;have HZ:=hid hz;have U:=hid V;rw[V]at H⊢;clear h hz V;go_enter Tryz.func198,Tryz.ntmps198
 go_wp2_with fail
 refine qm ?_;intro W D;have X:W.heap[q]? =some (.cells Ka 252 (0,0)):=by
  rw[D];exact(Bh _ _ _ (by simp;omega)).trans (qe _ _ Y.symm)
 have r:W.heap[q+1]? =some (.cells (qj .u64 (yR 8 16 zs 0)) 252 (0,0)):=by
  rw[D];exact qe _ _ (by simp;omega)
 have G:Below w.heap.size w W:=by
  rw[D];exact((Below.refl w.heap.size w).alloc Nl _).alloc (by simp) _
 have ad:q+1<W.heap.size:=(Ai r).1;clear D;have HR:=hid X;have HV:=hid r;have HB:=hid G;clear X r G;go_loopw [10] (fun i wr=> ∃j:Nat,i= .int .i64 j∧j≤16∧wr.heap[q+1]? =some (.cells (qj .u64 (yR 8 16 zs j)) 252 (0,0))∧But (q+1) W wr) (fun i _=>16 - (intOf i).toNat)
 case atStart=>exact⟨0,rfl,Nat.zero_le _,HV.out,But.refl _ _⟩
 case round=>
  obtain⟨j,rfl,hj,r,G⟩:=hrel;have ae:=G.size;have S:=hid r;have ab:=hid G;have J:=hid (HB.out.trans (G.below (by omega) HB.out.size));by_cases af:j<16
  ·have c2:wr.cell? ⟨q+1,j,none⟩=some (.int .u64 (wd (yR 8 16 zs j) j)):=(qq r _).trans (yw (yO _ _ _ _) (by omega));have f2: ∀o,wr.frozen? ⟨q+1,o,none⟩=false:=(qR r).2;have e8:IntKind.i64.wrap (8*(j:Int))=((8*j:Nat):Int):=by rw[IntKind.wrap_i64];omega
   have I:=hid (qbW zs (.slice a 128 ac) (8*j) wr (qN H.out J.out) HZ.out (by have:=U.out;omega) (by have:=U.out;omega));have Z:((8*j:Nat):Int)=8*(j:Int):=by omega
   have aa:8*(j:Int)≤128:=by omega
   rw[Z]at I;clear r G e8 Z;go_wp2_with fail
   refine I.out.mono ?_;rintro e2 w2 ⟨rfl,rfl⟩;go_wp2
   exact⟨⟨j+1,rfl,by omega,by rw[yR,←Qj];exact block_setCell S.out _,ab.out.set _ _⟩,by simp[intOf];omega⟩
  ·obtain rfl:j=16:=by omega
   have D:=ym 8 16 HZ.out U.out;have O:=(G.block q (by omega) (by omega)).trans HR.out;rw[jV]at r;clear G S;go_wp2_with ((with_reducible show wpList _ _ _ (Oper.mk (some 23) _ _ _ _ _::_) _ _);refine wpList_load_row rfl 252 _ rfl (q+1) rfl _ _ _ _ r Tryz.underlying252 rfl (by rw[qg,D.1];kernel_rfl) ?_;refine wpList_store_row rfl 252 _ _ rfl q (qj .u64 (Q3 8 16 zs)) rfl rfl 252 _ O (by rw[qg,D.1];kernel_rfl) (by rw[qg,D.1];rfl) qy ?_)
   exact Bp (qH rfl _ _ _ _ _ _ _ rfl (setRow_heap _ _ _ _ _ _ O) Tryz.underlying252 rfl (by rw[qg,D.1];kernel_rfl)) rfl ⟨rfl,below_setRow (J.out.mono (by omega)) (by omega) _⟩
theorem qcu (zs:List Int)(v:Value)(w:World)(h:Holds8 w v zs)(hz: ∀z∈zs,0≤z∧z≤255)(V:zs.length=128):
  Calls Tryz.prog 193 #[v] w fun e w'=>e= .returned (.tuple #[.agg (qj .u64 (Q3 8 16 zs)),.int .i64 0])∧Below w.heap.size w w':=by
 obtain⟨a,ac,rfl⟩:=h.slice;obtain⟨q,Y⟩:=Ex w.heap.size;have H:=hid h;have HZ:=hid hz;have U:=hid V;rw[V]at H⊢;clear h hz V;go_enter Tryz.func193,Tryz.ntmps193
 go_wp2_with fail
 refine qm ?_;intro W D;have X:W.heap[q]? =some (.cells Ka 252 (0,0)):=by
  rw[D];exact(Bh _ _ _ (by simp;omega)).trans (qe _ _ Y.symm)
 have r:W.heap[q+1]? =some (.cells (qj .u64 (yR 8 16 zs 0)) 252 (0,0)):=by
  rw[D];exact qe _ _ (by simp;omega)
 have G:Below w.heap.size w W:=by
  rw[D];exact((Below.refl w.heap.size w).alloc Nl _).alloc (by simp) _
 have ad:q+1<W.heap.size:=(Ai r).1;clear D;have HR:=hid X;have HV:=hid r;have HB:=hid G;clear X r G;go_loopw [5] (fun i wr=> ∃j:Nat,i= .int .i64 j∧j≤16∧wr.heap[q+1]? =some (.cells (qj .u64 (yR 8 16 zs j)) 252 (0,0))∧But (q+1) W wr) (fun i _=>16 - (intOf i).toNat)
 case atStart=>exact⟨0,rfl,Nat.zero_le _,HV.out,But.refl _ _⟩
 case round=>
  obtain⟨j,rfl,hj,r,G⟩:=hrel;have ae:=G.size;have S:=hid r;have ab:=hid G;have J:=hid (HB.out.trans (G.below (by omega) HB.out.size));by_cases af:j<16
  ·have c2:wr.cell? ⟨q+1,j,none⟩=some (.int .u64 (wd (yR 8 16 zs j) j)):=(qq r _).trans (yw (yO _ _ _ _) (by omega));have f2: ∀o,wr.frozen? ⟨q+1,o,none⟩=false:=(qR r).2;have e8:IntKind.i64.wrap (8*(j:Int))=((8*j:Nat):Int):=by rw[IntKind.wrap_i64];omega
   have I:=hid (qbK zs (.slice a 128 ac) (8*j) wr (qN H.out J.out) HZ.out (by have:=U.out;omega) (by have:=U.out;omega));have Z:((8*j:Nat):Int)=8*(j:Int):=by omega
   have aa:8*(j:Int)≤128:=by omega
   rw[Z]at I;clear r G e8 Z;go_wp2_with fail
   refine I.out.mono ?_;rintro e2 w2 ⟨rfl,rfl⟩;go_wp2
   exact⟨⟨j+1,rfl,by omega,by rw[yR,←Qj];exact block_setCell S.out _,ab.out.set _ _⟩,by simp[intOf];omega⟩
  ·obtain rfl:j=16:=by omega
   have D:=ym 8 16 HZ.out U.out;have O:=(G.block q (by omega) (by omega)).trans HR.out;rw[jV]at r;clear G S;go_wp2_with ((with_reducible show wpList _ _ _ (Oper.mk (some 23) _ _ _ _ _::_) _ _);refine wpList_load_row rfl 252 _ rfl (q+1) rfl _ _ _ _ r Tryz.underlying252 rfl (by rw[qg,D.1];kernel_rfl) ?_;refine wpList_store_row rfl 252 _ _ rfl q (qj .u64 (Q3 8 16 zs)) rfl rfl 252 _ O (by rw[qg,D.1];kernel_rfl) (by rw[qg,D.1];rfl) qy ?_)
   exact Bp (qH rfl _ _ _ _ _ _ _ rfl (setRow_heap _ _ _ _ _ _ O) Tryz.underlying252 rfl (by rw[qg,D.1];kernel_rfl)) rfl ⟨rfl,below_setRow (J.out.mono (by omega)) (by omega) _⟩
def yW (L:List Int)(f:Nat→Int):Nat→List Int
 | 0=>L
 | j+1=>(yW L f j).set j (f j)
theorem yu (L:List Int)(f:Nat→Int): ∀j,(yW L f j).length=L.length
 | 0=>rfl
 | j+1=>by simp[yW,yu L f j]
theorem qe5 (L:List Int)(f:Nat→Int): ∀j i,i<j→i<L.length→(yW L f j)[i]? =some (f i)
 | j+1,i,h,hc=>by
  simp only[yW];by_cases e:i=j
  ·subst e;rw[List.getElem?_set_self (by rw[yu];exact hc)]
  ·rw[List.getElem?_set_ne (Ne.symm e)];exact qe5 L f j i (by omega) hc
theorem YJ (L:List Int)(f:Nat→Int): ∀j i,j≤i→wd (yW L f j) i=wd L i
 | 0,i,_=>rfl
 | j+1,i,h=>by
  have o:=YJ L f j i (by omega);simp only[yW];unfold wd at*;rw[Lg,List.getElem?_set_ne (by omega),←Lg];exact o
theorem jW (L:List Int)(f:Nat→Int):yW L f L.length=(List.range L.length).map f:=by
 apply List.ext_getElem?
 intro i;by_cases h:i<L.length
 ·rw[qe5 L f _ i h h];simp[h]
 ·rw[List.getElem?_eq_none (by rw[yu];omega),List.getElem?_eq_none (by simp;omega)]
def YO (k:IntKind)(iv:List Int)(n:Nat)(zs:List Int)(i:Nat):Int:=bits .xor k (wd iv i) (qO zs (n*i) n)
def yF (k:IntKind)(iv:List Int)(n:Nat)(zs:List Int):List Int:=(List.range 8).map (YO k iv n zs)
theorem YN {k:IntKind}{N:Nat}(q: ∀z,k.wrap z=z%2^N)(r:List Int)(n:Nat)(zs:List Int):Words N 8 (yF k r n zs):=by
 refine⟨by simp[yF],fun x o=>?_⟩;simp only[yF,List.mem_map,List.mem_range]at o;obtain⟨i,hi,rfl⟩:=o;exact Qd _ _ _ q _ _
theorem qfA (zs:List Int)(v:Value)(w:World)(h:Holds8 w v zs)(hz: ∀z∈zs,0≤z∧z≤255)(hl:zs.length=64):
  Calls Tryz.prog 183 #[v] w fun e w'=>e= .returned (.tuple #[.agg (qj .u64 (yF .u64 IVb 8 zs)),.int .i64 0])∧Below w.heap.size w w':=by
 obtain⟨a,af,rfl⟩:=h.slice;obtain⟨J,ab⟩:=Ex w.heap.size;have H:=hid h;have HZ:=hid hz;have HL:=hid hl;rw[hl]at H⊢;clear h hz hl;go_enter Tryz.func183,Tryz.ntmps183
 go_wp2_with fail
 refine(qgS _).mono ?_;rintro e1 w1 ⟨rfl,I⟩;have U:=(I.block J (by simp;omega)).trans (qe _ _ ab.symm);have ac:J+1≤w1.heap.size:=by have:=I.size;simp at this;omega
 have V:Below w.heap.size w w1:=((Below.refl w.heap.size w).alloc Nl _).trans (I.mono (by simp));clear I;go_wp2_with fail
 refine qm ?_;intro W r;obtain⟨G,O⟩:=Ex w1.heap.size;have hr:W.heap[J]? =some (.cells Kg 274 (0,0)):=by
  rw[r];exact(Bh _ _ _ (by omega)).trans U
 have q:W.heap[G]? =some (.cells (qj .u64 (yW IVb (YO .u64 IVb 8 zs) 0)) 274 (0,0)):=by
  rw[r];exact qe _ _ O.symm
 have D:Below w.heap.size w W:=by
  rw[r];exact V.alloc (by omega) _
 rw[O];have ak:J+1≤G:=by omega
 clear r U ac V O;have ah:G<W.heap.size:=(Ai q).1;have HR:=hid hr;have HV:=hid q;have HB:=hid D;clear hr q D;go_loopw [13] (fun i wr=> ∃j:Nat,i= .int .i64 j∧j≤8∧wr.heap[G]? =some (.cells (qj .u64 (yW IVb (YO .u64 IVb 8 zs) j)) 274 (0,0))∧But G W wr) (fun i _=>8 - (intOf i).toNat)
 case atStart=>exact⟨0,rfl,Nat.zero_le _,HV.out,But.refl _ _⟩
 case round=>
  obtain⟨j,rfl,hj,q,D⟩:=hrel;have ai:=D.size;have aa:=hid q;have ae:=hid D;have Y:=hid (HB.out.trans (D.below (by omega) HB.out.size));have ag:G<wr.heap.size:=(Ai q).1;by_cases aj:j<8
  ·have c2:wr.cell? ⟨G,j,none⟩=some (.int .u64 (wd IVb j)):=by
    rw[qq q,yw (n:=8) (by rw[yu];rfl) (by omega),YJ _ _ _ _ Nl]
   have f2: ∀o,wr.frozen? ⟨G,o,none⟩=false:=(qR q).2;have e8:IntKind.i64.wrap (8*(j:Int))=((8*j:Nat):Int):=by rw[IntKind.wrap_i64];omega
   have X:=hid (qbW zs (.slice a 64 af) (8*j) wr (qN H.out Y.out) HZ.out (by have:=HL.out;omega) (by have:=HL.out;omega));have e9:((8*j:Nat):Int)=8*(j:Int):=by omega
   have ad:8*(j:Int)≤64:=by omega
   rw[e9]at X;clear q D e8 e9;go_wp2_with fail
   refine X.out.mono ?_;rintro e2 w2 ⟨rfl,rfl⟩;go_wp2
   exact⟨⟨j+1,rfl,by omega,by rw[yW,←Qj];exact block_setCell aa.out _,ae.out.set _ _⟩,by simp[intOf];omega⟩
  ·obtain rfl:j=8:=by omega
   have r:=YN (k:= .u64) (N:=64) (fun z=>IntKind.wrap_u64 z) IVb 8 zs;have Z:=(D.block J (by omega) (by omega)).trans HR.out;have S:(yW IVb (YO .u64 IVb 8 zs) 8)=yF .u64 IVb 8 zs:=jW _ _;rw[S]at q;clear D aa S;go_wp2_with ((with_reducible show wpList _ _ _ (Oper.mk (some 30) _ _ _ _ _::_) _ _);refine wpList_load_row rfl 274 _ rfl G rfl _ _ _ _ q Tryz.underlying274 rfl (by rw[qg,r.1];kernel_rfl) ?_;refine wpList_store_row rfl 274 _ _ rfl J (qj .u64 (yF .u64 IVb 8 zs)) rfl rfl 274 _ Z (by rw[qg,r.1];kernel_rfl) (by rw[qg,r.1];rfl) qy ?_)
   exact Bp (qH rfl _ _ _ _ _ _ _ rfl (setRow_heap _ _ _ _ _ _ Z) Tryz.underlying274 rfl (by rw[qg,r.1];kernel_rfl)) rfl ⟨rfl,below_setRow (Y.out.mono (by omega)) (by omega) _⟩
theorem qfJ (zs:List Int)(v:Value)(w:World)(h:Holds8 w v zs)(hz: ∀z∈zs,0≤z∧z≤255)(hl:zs.length=64):
  Calls Tryz.prog 205 #[v] w fun e w'=>e= .returned (.tuple #[.agg (qj .u64 (yF .u64 IVb 8 zs)),.int .i64 0])∧Below w.heap.size w w':=by
 obtain⟨a,ah,rfl⟩:=h.slice;obtain⟨J,ab⟩:=Ex w.heap.size;have H:=hid h;have HZ:=hid hz;have HL:=hid hl;rw[hl]at H⊢;clear h hz hl;go_enter Tryz.func205,Tryz.ntmps205
 go_wp2_with fail
 refine qm ?_;intro W D;obtain⟨q,V⟩:=Ex (J+1);have hr:W.heap[J]? =some (.cells Kg 274 (0,0)):=by
  rw[D];exact(Bh _ _ _ (by simp;omega)).trans (qe _ _ ab.symm)
 have r:W.heap[q]? =some (.cells (qj .u64 (yW [0,0,0,0,0,0,0,0] (YO .u64 IVb 8 zs) 0)) 274 (0,0)):=by
  rw[D];exact qe _ _ (by simp;omega)
 have G:Below w.heap.size w W:=by
  rw[D];exact((Below.refl w.heap.size w).alloc Nl _).alloc (by simp) _
 rw[V];have ak:J+1≤q:=by omega
 clear D V;have ai:q<W.heap.size:=(Ai r).1;have HR:=hid hr;have HV:=hid r;have HB:=hid G;clear hr r G;go_loopw [5] (fun i wr=> ∃j:Nat,i= .int .i64 j∧j≤8∧wr.heap[q]? =some (.cells (qj .u64 (yW [0,0,0,0,0,0,0,0] (YO .u64 IVb 8 zs) j)) 274 (0,0))∧But q W wr) (fun i _=>8 - (intOf i).toNat)
 case atStart=>exact⟨0,rfl,Nat.zero_le _,HV.out,But.refl _ _⟩
 case round=>
  obtain⟨j,rfl,hj,r,G⟩:=hrel;have aj:=G.size;have Z:=hid r;have ae:=hid G;have X:=hid (HB.out.trans (G.below (by omega) HB.out.size));have aa:q<wr.heap.size:=(Ai r).1;by_cases ag:j<8
  ·have c2:wr.cell? ⟨q,j,none⟩=some (.int .u64 (wd [0,0,0,0,0,0,0,0] j)):=by
    rw[qq r,yw (n:=8) (by rw[yu];rfl) (by omega),YJ _ _ _ _ Nl]
   have f2: ∀o,wr.frozen? ⟨q,o,none⟩=false:=(qR r).2;have e8:IntKind.i64.wrap (8*(j:Int))=((8*j:Nat):Int):=by rw[IntKind.wrap_i64];omega
   have U:=hid (qbK zs (.slice a 64 ah) (8*j) wr (qN H.out X.out) HZ.out (by have:=HL.out;omega) (by have:=HL.out;omega));have e9:((8*j:Nat):Int)=8*(j:Int):=by omega
   have ad:8*(j:Int)≤64:=by omega
   rw[e9]at U;clear r G e8 e9;go_wp2_with fail
   refine U.out.mono ?_;rintro e2 w2 ⟨rfl,rfl⟩;go_wp2_with fail
   refine(qcS j ag _).mono ?_;rintro e3 w3 ⟨rfl,O⟩;have I:=(O.block q aa).trans Z.out;have af:=hid I;have ac:=hid (ae.out.trans (But.of_below (b:=q) O));have c3:w3.cell? ⟨q,j,none⟩=some (.int .u64 (wd [0,0,0,0,0,0,0,0] j)):=by
    rw[qq I,yw (n:=8) (by rw[yu];rfl) (by omega),YJ _ _ _ _ Nl]
   have f3: ∀o,w3.frozen? ⟨q,o,none⟩=false:=(qR I).2;clear c2 f2 O I;go_wp2
   exact⟨⟨j+1,rfl,by omega,by rw[yW,←Qj];exact block_setCell af.out _,ac.out.set _ _⟩,by simp[intOf];omega⟩
  ·obtain rfl:j=8:=by omega
   have D:=YN (k:= .u64) (N:=64) (fun z=>IntKind.wrap_u64 z) IVb 8 zs;have Y:=(G.block J (by omega) (by omega)).trans HR.out;have S:(yW [0,0,0,0,0,0,0,0] (YO .u64 IVb 8 zs) 8)=yF .u64 IVb 8 zs:=jW _ _;rw[S]at r;clear G Z S;go_wp2_with ((with_reducible show wpList _ _ _ (Oper.mk (some 29) _ _ _ _ _::_) _ _);refine wpList_load_row rfl 274 _ rfl q rfl _ _ _ _ r Tryz.underlying274 rfl (by rw[qg,D.1];kernel_rfl) ?_;refine wpList_store_row rfl 274 _ _ rfl J (qj .u64 (yF .u64 IVb 8 zs)) rfl rfl 274 _ Y (by rw[qg,D.1];kernel_rfl) (by rw[qg,D.1];rfl) qy ?_)
   exact Bp (qH rfl _ _ _ _ _ _ _ rfl (setRow_heap _ _ _ _ _ _ Y) Tryz.underlying274 rfl (by rw[qg,D.1];kernel_rfl)) rfl ⟨rfl,below_setRow (X.out.mono (by omega)) (by omega) _⟩
theorem qiD (zs:List Int)(v:Value)(at_:Nat)(w:World)(h:Holds8 w v zs)(r: ∀z∈zs,0≤z∧z≤255)(o:at_+4≤zs.length)(O:zs.length≤4294967296):
  Calls Tryz.prog 122 #[v,.int .i64 at_,.int .i64 4] w fun e w'=>e= .returned (.tuple #[.int .u64 (qO zs at_ 4),.int .i64 0])∧w'=w:=by
 obtain⟨a,I,rfl,h⟩:=h;obtain⟨b,off,rfl,J,q⟩:=h.resolve_left (fun e=>by rw[e]at o;simp at o);have D:=hid q;clear h q;go_enter Tryz.func122,Tryz.ntmps122
 go_wp2_with fail
 go_loopw [8,25] (fun s i wr=> ∃k:Nat,s= .int .u64 (qO zs at_ k)∧i= .int .i64 k∧w=wr∧k≤4) (fun _ i _=>4 - (intOf i).toNat)
 case atStart=>exact⟨0,rfl,rfl,rfl,by omega⟩
 case round=>
  obtain⟨k,rfl,rfl,rfl,U⟩:=hrel;by_cases G:k<4
  ·have S:=D.out (at_+k) (by omega);have V:=orZ (qO zs at_ k) (qp zs (at_+k)) k (by omega) (Qy r k (by omega)) (qZ r (by omega)).2;go_wp2
   exact⟨⟨k+1,rfl,rfl,by trivial,by omega⟩,by simp[intOf];omega⟩
  ·obtain rfl:k=4:=by omega
   go_wp2
   exact Bp (results_tmp2 (fn:=Tryz.f122) (t:=6) (u:=7) rfl _ _ _) rfl ⟨rfl,rfl⟩
theorem qf8 (zs:List Int)(v:Value)(at_:Nat)(w:World)(h:Holds8 w v zs)(D: ∀z∈zs,0≤z∧z≤255)(r:at_+4≤zs.length)(G:zs.length≤4294967296):
  Calls Tryz.prog 216 #[v,.int .i64 at_] w fun e w'=>e= .returned (.tuple #[.int .u32 (qO zs at_ 4),.int .i64 0])∧w'=w:=by
 have H:=hid (qiD zs v at_ w h D r G);have o:=Qy D (at_:=at_) 4 r;simp only[Nat.reduceMul,Int.reducePow]at o;obtain⟨x,q⟩:=Ex (qO zs at_ 4);rw[q]at H o⊢;obtain⟨I,J⟩:=o;clear q;go_enter Tryz.func216,Tryz.ntmps216
 go_wp2_with fail
 refine H.out.mono ?_;rintro e w1 ⟨rfl,rfl⟩;go_wp2
 exact Bp (results_tmp2 rfl _ _ _) rfl ⟨rfl,rfl⟩
theorem qeq (n:Nat)(a:Option Addr)(o:Nat)(w:World):Calls Tryz.prog 200 #[.slice a n o,.int .i64 n] w fun e w'=>e= .returned (.int .i64 0)∧w'=w:=by
 go_enter Tryz.func200,Tryz.ntmps200
 go_wp2
 go_ret
 exact⟨rfl,rfl⟩
theorem JH (c:Nat)(hc:c≤16)(r:Nat)(T:TypeId)(zs:List Int)(v:Value)(w:World)(h:Holds8 w v zs)(Z: ∀z∈zs,0≤z∧z≤255)(V:zs.length=4*c)(q:w.heap[r]? =some (.cells (qj .u32 (yR 4 c zs 0)) T (0,0)))
  (I: ∀w',But r w w'→Holds8 w' v zs):
  Calls Tryz.prog 201 #[.slice (some ⟨r,0,none⟩) c c,v] w fun e w'=>e= .returned (.tuple #[])∧w'.heap[r]? =some (.cells (qj .u32 (Q3 4 c zs)) T (0,0))∧But r w w':=by
 have HN:=hid I;have HZ:=hid Z;have S:=hid V;have HV:=hid q;clear h Z V q I;go_enter Tryz.func201,Tryz.ntmps201
 go_wp2_with fail
 go_loopw [7] (fun i wr=> ∃j:Nat,i= .int .i64 j∧j≤c∧wr.heap[r]? =some (.cells (qj .u32 (yR 4 c zs j)) T (0,0))∧But r w wr) (fun i _=>c - (intOf i).toNat)
 case atStart=>exact⟨0,rfl,Nat.zero_le _,HV.out,But.refl _ _⟩
 case round=>
  obtain⟨j,rfl,hj,q,D⟩:=hrel;have X:=hid q;have J:=hid D;by_cases aa:j<c
  ·have c2:wr.cell? ⟨r,j,none⟩=some (.int .u32 (wd (yR 4 c zs j) j)):=(qq q _).trans (yw (yO _ _ _ _) aa);have f2: ∀o,wr.frozen? ⟨r,o,none⟩=false:=(qR q).2;have U:((4*j:Nat):Int)=4*(j:Int):=by omega
   have G:=hid (qf8 zs v (4*j) wr (HN.out wr D) HZ.out (by have:=S.out;omega) (by have:=S.out;omega));have Y:4*(j:Int)≤64:=by omega
   rw[U]at G;clear q D U;go_wp2_with fail
   refine G.out.mono ?_;rintro e2 w2 ⟨rfl,rfl⟩;go_wp2
   exact⟨⟨j+1,rfl,by omega,by rw[yR,←Qj];exact block_setCell X.out _,J.out.set _ _⟩,by simp[intOf];omega⟩
  ·obtain rfl:j=c:=by omega
   rw[jV]at q;have O:=hid q;clear q D;go_wp2
   exact bodyPost_end (results_none rfl _ _ _) rfl ⟨rfl,O.out,J.out⟩
theorem val4 (zs:List Int)(i:Nat):qO zs i 4=qp zs i+qp zs (i+1)*256+qp zs (i+2)*65536+qp zs (i+3)*16777216:=by
 simp only[qO,Nat.reduceMul,Int.reducePow,Nat.add_zero];omega
theorem qaS (zs:List Int)(v:Value)(at_:Nat)(w:World)(h:Holds8 w v zs)(q: ∀z∈zs,0≤z∧z≤255)(r:at_+4≤zs.length)(U:zs.length≤4294967296):
  Calls Tryz.prog 210 #[v,.int .i64 at_] w fun e w'=>e= .returned (.int .u32 (qO zs at_ 4))∧ ∃m,w'=w.drewN m:=by
 obtain⟨a,J,rfl,h⟩:=h;obtain⟨b,off,rfl,S,o⟩:=h.resolve_left (fun e=>by rw[e]at r;simp at r);have G:=o at_ (by omega);have O:=o (at_+1) (by omega);have I:=o (at_+2) (by omega);have D:=o (at_+3) (by omega);obtain⟨-,Z,x1⟩:=qZ q (show at_<zs.length by omega);obtain⟨-,V,y1⟩:=qZ q (show at_+1<zs.length by omega);obtain⟨-,z0,z1⟩:=qZ q (show at_+2<zs.length by omega);obtain⟨-,t0,t1⟩:=qZ q (show at_+3<zs.length by omega);rw[val4];generalize qp zs at_=x at*;generalize qp zs (at_+1)=y at*;generalize qp zs (at_+2)=z at*;generalize qp zs (at_+3)=t at*;have e1:IntKind.i64.wrap ((at_:Int)+1)=((at_+1:Nat):Int):=by rw[IntKind.wrap_i64];omega
 have Y:IntKind.i64.wrap ((at_:Int)+2)=((at_+2:Nat):Int):=by rw[IntKind.wrap_i64];omega
 have e3:IntKind.i64.wrap ((at_:Int)+3)=((at_+3:Nat):Int):=by rw[IntKind.wrap_i64];omega
 have l0:at_<zs.length:=by omega
 have X:at_+1<zs.length:=by omega
 have l2:at_+2<zs.length:=by omega
 have l3:at_+3<zs.length:=by omega
 clear h o q;go_enter Tryz.func210,Tryz.ntmps210
 go_wp2_with fail
 go_quiet (fail)
 go_wp2
 go_ret
 exact⟨rfl,nq,rfl⟩
theorem qfu (zs:List Int)(v:Value)(w:World)(h:Holds8 w v zs)(hz: ∀z∈zs,0≤z∧z≤255)(O:zs.length=64):
  Calls Tryz.prog 203 #[v] w fun e w'=>e= .returned (.tuple #[.agg (qj .u32 (Q3 4 16 zs)),.int .i64 0])∧Below w.heap.size w w':=by
 obtain⟨a,J,rfl⟩:=h.slice;obtain⟨q,U⟩:=Ex w.heap.size;have H:=hid h;have HZ:=hid hz;have X:=hid O;rw[O]at H⊢;clear h hz O;go_enter Tryz.func203,Tryz.ntmps203
 go_wp2_with fail
 refine(qeq 64 a J _).mono ?_;rintro e1 w1 ⟨rfl,o⟩;have S:w1.heap[q]? =some (.cells Kd 298 (0,0)):=by
  rw[o];exact(Bh _ _ _ (by simp;omega)).trans (qe _ _ U.symm)
 have hv:w1.heap[q+1]? =some (.cells (qj .u32 (yR 4 16 zs 0)) 298 (0,0)):=by
  rw[o];exact qe _ _ (by simp;omega)
 have Y:Below w.heap.size w w1:=by
  rw[o];exact((Below.refl w.heap.size w).alloc Nl _).alloc (by simp) _
 clear o;have r:=hid Y;have HR:=hid S;have HV:=hid hv;clear S hv Y;go_wp2_with fail
 refine(JH 16 (by decide) (q+1) 298 zs (.slice a 64 J) w1 (qN H.out r.out) HZ.out X.out HV.out (fun w' V=>qN H.out (r.out.trans (V.below (by omega) r.out.size)))).mono ?_;rintro e2 w2 ⟨rfl,aa,D⟩
 have G:=ym 4 16 HZ.out X.out;have I:=(D.block q (by have:=(Ai HR.out).1;omega) (by omega)).trans HR.out;have Z:=hid (r.out.trans (D.below (by omega) r.out.size));clear D;go_wp2_with ((with_reducible show wpList _ _ _ (Oper.mk (some 15) _ _ _ _ _::_) _ _);refine wpList_load_row rfl 298 _ rfl (q+1) rfl _ _ _ _ aa Tryz.underlying298 rfl (by rw[qg,G.1];kernel_rfl) ?_;refine wpList_store_row rfl 298 _ _ rfl q (qj .u32 (Q3 4 16 zs)) rfl rfl 298 _ I (by rw[qg,G.1];kernel_rfl) (by rw[qg,G.1];rfl) qy ?_)
 exact Bp (qH rfl _ _ _ _ _ _ _ rfl (setRow_heap _ _ _ _ _ _ I) Tryz.underlying298 rfl (by rw[qg,G.1];kernel_rfl)) rfl ⟨rfl,below_setRow (Z.out.mono (by omega)) (by omega) _⟩
theorem qcv (zs:List Int)(v:Value)(w:World)(h:Holds8 w v zs)(hz: ∀z∈zs,0≤z∧z≤255)(V:zs.length=64):
  Calls Tryz.prog 195 #[v] w fun e w'=>e= .returned (.tuple #[.agg (qj .u32 (Q3 4 16 zs)),.int .i64 0])∧Below w.heap.size w w':=by
 obtain⟨a,ac,rfl⟩:=h.slice;obtain⟨q,Y⟩:=Ex w.heap.size;have H:=hid h;have HZ:=hid hz;have U:=hid V;rw[V]at H⊢;clear h hz V;go_enter Tryz.func195,Tryz.ntmps195
 go_wp2_with fail
 refine qm ?_;intro W r;have X:W.heap[q]? =some (.cells Kd 298 (0,0)):=by
  rw[r];exact(Bh _ _ _ (by simp;omega)).trans (qe _ _ Y.symm)
 have G:W.heap[q+1]? =some (.cells (qj .u32 (yR 4 16 zs 0)) 298 (0,0)):=by
  rw[r];exact qe _ _ (by simp;omega)
 have D:Below w.heap.size w W:=by
  rw[r];exact((Below.refl w.heap.size w).alloc Nl _).alloc (by simp) _
 have ad:q+1<W.heap.size:=(Ai G).1;clear r;have HR:=hid X;have HV:=hid G;have HB:=hid D;clear X G D;go_loopw [5] (fun i wr=> ∃j:Nat,i= .int .i64 j∧j≤16∧wr.heap[q+1]? =some (.cells (qj .u32 (yR 4 16 zs j)) 298 (0,0))∧But (q+1) W wr) (fun i _=>16 - (intOf i).toNat)
 case atStart=>exact⟨0,rfl,Nat.zero_le _,HV.out,But.refl _ _⟩
 case round=>
  obtain⟨j,rfl,hj,G,D⟩:=hrel;have ae:=D.size;have S:=hid G;have ab:=hid D;have J:=hid (HB.out.trans (D.below (by omega) HB.out.size));by_cases af:j<16
  ·have Z:((4*j:Nat):Int)=4*(j:Int):=by omega
   have I:=hid (qaS zs (.slice a 64 ac) (4*j) wr (qN H.out J.out) HZ.out (by have:=U.out;omega) (by have:=U.out;omega));have aa:4*(j:Int)≤64:=by omega
   rw[Z]at I;clear D Z;go_wp2_with fail
   refine I.out.mono ?_;rintro e2 w2 ⟨rfl,m,rfl⟩;have c2:(wr.drewN m).cell? ⟨q+1,j,none⟩=some (.int .u32 (wd (yR 4 16 zs j) j)):=(qq (W:=wr.drewN m) G _).trans (yw (yO _ _ _ _) (by omega));have f2: ∀o,(wr.drewN m).frozen? ⟨q+1,o,none⟩=false:=(qR (W:=wr.drewN m) G).2;go_wp2
   exact⟨⟨j+1,rfl,by omega,by rw[yR,←Qj];exact block_setCell (w:=wr.drewN m) S.out _,(ab.out.drewN m).set _ _⟩,by simp[intOf];omega⟩
  ·obtain rfl:j=16:=by omega
   have r:=ym 4 16 HZ.out U.out;have O:=(D.block q (by omega) (by omega)).trans HR.out;rw[jV]at G;clear D S;go_wp2_with ((with_reducible show wpList _ _ _ (Oper.mk (some 26) _ _ _ _ _::_) _ _);refine wpList_load_row rfl 298 _ rfl (q+1) rfl _ _ _ _ G Tryz.underlying298 rfl (by rw[qg,r.1];kernel_rfl) ?_;refine wpList_store_row rfl 298 _ _ rfl q (qj .u32 (Q3 4 16 zs)) rfl rfl 298 _ O (by rw[qg,r.1];kernel_rfl) (by rw[qg,r.1];rfl) qy ?_)
   exact Bp (qH rfl _ _ _ _ _ _ _ rfl (setRow_heap _ _ _ _ _ _ O) Tryz.underlying298 rfl (by rw[qg,r.1];kernel_rfl)) rfl ⟨rfl,below_setRow (J.out.mono (by omega)) (by omega) _⟩
theorem qg3 (n c:Nat)(zs:List Int){i:Nat}(hi:i<c):wd (Q3 n c zs) i=qO zs (n*i) n:=by
 simp[wd,Q3,Lg,hi]
theorem qfB (zs:List Int)(v:Value)(w:World)(h:Holds8 w v zs)(hz: ∀z∈zs,0≤z∧z≤255)(hl:zs.length=32):
  Calls Tryz.prog 186 #[v] w fun e w'=>e= .returned (.tuple #[.agg (qj .u32 (yF .u32 IVs 4 zs)),.int .i64 0])∧Below w.heap.size w w':=by
 obtain⟨a,am,rfl⟩:=h.slice;obtain⟨q,ao⟩:=Ex w.heap.size;have H:=hid h;have HZ:=hid hz;have HL:=hid hl;rw[hl]at H⊢;clear h hz hl;go_enter Tryz.func186,Tryz.ntmps186
 go_wp2_with fail
 refine(qeq 32 a am _).mono ?_;rintro e1 w1 ⟨rfl,U⟩;have ag:w1.heap[q]? =some (.cells Kf 284 (0,0)):=by
  rw[U];exact qe _ _ ao.symm
 have ak:Below w.heap.size w w1:=by
  rw[U];exact(Below.refl w.heap.size w).alloc Nl _
 have ae:w1.heap.size=q+1:=by rw[U];simp;omega
 clear U;go_wp2_with fail
 have ad:(w1.alloc (.cells Kf 284 (0,0))).heap[q+1]? =some (.cells (qj .u32 (yR 4 8 zs 0)) 284 (0,0)):=qe _ _ ae.symm;have r:=ak.alloc (by omega) (.cells Kf 284 (0,0));refine(JH 8 (by decide) (q+1) 284 zs (.slice a 32 am) _ (qN H.out r) HZ.out HL.out ad (fun w' V=>qN H.out (r.trans (V.below (by omega) r.size)))).mono ?_;rintro e2 w2 ⟨rfl,aa,ab⟩
 have ac:=(ab.block q (by simp;omega) (by omega)).trans ((Bh _ _ _ (by omega)).trans ag);have O:=r.trans (ab.below (by omega) r.size);have al:q+1<w2.heap.size:=(Ai aa).1;clear ab ag ak ad r ae;go_wp2_with fail
 refine(qgR _).mono ?_;rintro e3 w3 ⟨rfl,S⟩;have Z:=(S.block (q+1) al).trans aa;have af:=(S.block q (by omega)).trans ac;have aj:=O.trans (S.mono O.size);have an:q+1<w3.heap.size:=(Ai Z).1;clear S aa ac O al;go_wp2_with fail
 refine qm ?_;intro W G;obtain⟨J,X⟩:=Ex w3.heap.size;have hr:W.heap[q]? =some (.cells Kf 284 (0,0)):=by rw[G];exact(Bh _ _ _ (by omega)).trans af
 have hp:W.heap[q+1]? =some (.cells (qj .u32 (Q3 4 8 zs)) 284 (0,0)):=by rw[G];exact(Bh _ _ _ (by omega)).trans Z
 have D:W.heap[J]? =some (.cells (qj .u32 (yW IVs (YO .u32 IVs 4 zs) 0)) 284 (0,0)):=by rw[G];exact qe _ _ X.symm
 have I:Below w.heap.size w W:=by rw[G];exact aj.alloc (by omega) _
 rw[X];have ax:q+1<J:=by omega
 have aw:J<W.heap.size:=(Ai D).1;clear G af Z aj an X;have HR:=hid hr;have HP:=hid hp;have HV:=hid D;have HB:=hid I;clear hr hp D I;go_loopw [18] (fun i wr=> ∃j:Nat,i= .int .i64 j∧j≤8∧wr.heap[J]? =some (.cells (qj .u32 (yW IVs (YO .u32 IVs 4 zs) j)) 284 (0,0))∧But J W wr) (fun i _=>8 - (intOf i).toNat)
 case atStart=>exact⟨0,rfl,Nat.zero_le _,HV.out,But.refl _ _⟩
 case round=>
  obtain⟨j,rfl,hj,D,I⟩:=hrel;have av:=I.size;have ai:=hid D;have aq:=hid I;have ap:=hid (HB.out.trans (I.below (by omega) HB.out.size));have au:J<wr.heap.size:=(Ai D).1;by_cases ar:j<8
  ·have c2:wr.cell? ⟨J,j,none⟩=some (.int .u32 (wd IVs j)):=by
    rw[qq D,yw (n:=8) (by rw[yu];rfl) (by omega),YJ _ _ _ _ Nl]
   have c1:wr.cell? ⟨q+1,j,none⟩=some (.int .u32 (qO zs (4*j) 4)):=by
    rw[qq ((I.block (q+1) (by omega) (by omega)).trans HP.out),yw (n:=8) (by simp[Q3]) (by omega),qg3 _ _ _ ar]
   have f2: ∀o,wr.frozen? ⟨J,o,none⟩=false:=(qR D).2;have q1:q+1<wr.heap.size:=by omega
   clear D I;go_wp2_with fail
   refine qk (by dsimp only[List.dropLast]) (by rfl) (by rfl) (by kernel_rfl) (by kernel_rfl) (by kernel_rfl) (by kernel_rfl) ?_;repeat(go_big_quiet_step (fail))
   refine wpQuiet_nil ?_;intro _ V;obtain⟨n1,rfl⟩:=V;go_wp2
   exact⟨⟨j+1,rfl,by omega,by rw[yW,←Qj];exact block_setCell (w:=wr.drewN n1) ai.out _,(aq.out.drewN n1).set _ _⟩,by simp[intOf];omega⟩
  ·obtain rfl:j=8:=by omega
   have G:=YN (k:= .u32) (N:=32) (fun z=>IntKind.wrap_u32 z) IVs 4 zs;have ah:=(I.block q (by omega) (by omega)).trans HR.out;have Y:(yW IVs (YO .u32 IVs 4 zs) 8)=yF .u32 IVs 4 zs:=jW _ _;rw[Y]at D;clear I ai Y;go_wp2_with ((with_reducible show wpList _ _ _ (Oper.mk (some 30) _ _ _ _ _::_) _ _);refine wpList_load_row rfl 284 _ rfl (J) rfl _ _ _ _ D Tryz.underlying284 rfl (by rw[qg,G.1];kernel_rfl) ?_;refine wpList_store_row rfl 284 _ _ rfl q (qj .u32 (yF .u32 IVs 4 zs)) rfl rfl 284 _ ah (by rw[qg,G.1];kernel_rfl) (by rw[qg,G.1];rfl) qy ?_)
   exact Bp (qH rfl _ _ _ _ _ _ _ rfl (setRow_heap _ _ _ _ _ _ ah) Tryz.underlying284 rfl (by rw[qg,G.1];kernel_rfl)) rfl ⟨rfl,below_setRow (ap.out.mono (by omega)) (by omega) _⟩
theorem qfK (zs:List Int)(v:Value)(w:World)(h:Holds8 w v zs)(hz: ∀z∈zs,0≤z∧z≤255)(Z:zs.length=32):
  Calls Tryz.prog 206 #[v] w fun e w'=>e= .returned (.tuple #[.agg (qj .u32 (yF .u32 IVs 4 zs)),.int .i64 0])∧Below w.heap.size w w':=by
 obtain⟨a,ag,rfl⟩:=h.slice;obtain⟨q,ac⟩:=Ex w.heap.size;have H:=hid h;have HZ:=hid hz;have HL:=hid Z;rw[Z]at H⊢;clear h hz Z;go_enter Tryz.func206,Tryz.ntmps206
 go_wp2_with fail
 refine(qbM _).mono ?_;rintro e3 w3 ⟨rfl,I⟩;have S:=(I.block q (by simp;omega)).trans ((Bh _ _ _ (by simp;omega)).trans (qe _ _ ac.symm));have J:=(I.block (q+1) (by simp;omega)).trans (qe _ _ (by simp;omega));have Y:Below w.heap.size w w3:=(((Below.refl w.heap.size w).alloc Nl _).alloc (by simp) _).trans (I.mono (by simp;omega));have ab:q+1<w3.heap.size:=by have:=I.size;simp at this;omega
 clear I;go_wp2_with ((with_reducible show wpList _ _ _ (Oper.mk none (Op.store 284 _ _) _ _ _ _::_) _ _);refine wpList_store_row rfl 284 _ _ rfl (q+1) Ki rfl rfl 284 _ J (by kernel_rfl) (by kernel_rfl) (by kernel_rfl) ?_)
 refine qm ?_;intro W D;have hr:W.heap[q]? =some (.cells Kf 284 (0,0)):=by rw[D];exact(setRow_other _ _ _ _ (by omega)).trans S
 have r:W.heap[q+1]? =some (.cells (qj .u32 (yW IVs (YO .u32 IVs 4 zs) 0)) 284 (0,0)):=by rw[D];exact setRow_heap _ _ _ _ _ _ J
 have G:Below w.heap.size w W:=by rw[D];exact below_setRow Y (by omega) _
 have ai:q+1<W.heap.size:=(Ai r).1;clear D S J Y ab;have HR:=hid hr;have HV:=hid r;have HB:=hid G;clear hr r G;go_loopw [5] (fun i wr=> ∃j:Nat,i= .int .i64 j∧j≤8∧wr.heap[q+1]? =some (.cells (qj .u32 (yW IVs (YO .u32 IVs 4 zs) j)) 284 (0,0))∧But (q+1) W wr) (fun i _=>8 - (intOf i).toNat)
 case atStart=>exact⟨0,rfl,Nat.zero_le _,HV.out,But.refl _ _⟩
 case round=>
  obtain⟨j,rfl,hj,r,G⟩:=hrel;have ah:=G.size;have X:=hid r;have af:=hid G;have U:=hid (HB.out.trans (G.below (by omega) HB.out.size));by_cases aj:j<8
  ·have c2:wr.cell? ⟨q+1,j,none⟩=some (.int .u32 (wd IVs j)):=by
    rw[qq r,yw (n:=8) (by rw[yu];rfl) (by omega),YJ _ _ _ _ Nl]
   have f2: ∀o,wr.frozen? ⟨q+1,o,none⟩=false:=(qR r).2;have e9:((4*j:Nat):Int)=4*(j:Int):=by omega
   have ae:=hid (fun n=>qaS zs (.slice a 32 ag) (4*j) (wr.drewN n) (qN H.out (U.out.trans (QU n))) HZ.out (by have:=HL.out;omega) (by have:=HL.out;omega));have e8:IntKind.i64.wrap (4*(j:Int))=((4*j:Nat):Int):=by rw[IntKind.wrap_i64];omega
   have hS:=hid (show YO .u32 IVs 4 zs j=bits .xor .u32 (wd IVs j) (qO zs (4*j) 4) from rfl);generalize aa:4*j=k4 at*;clear r G aa e9;go_wp2_with fail
   refine qk (by dsimp only[List.dropLast]) (by rfl) (by rfl) (by kernel_rfl) (by kernel_rfl) (by kernel_rfl) (by kernel_rfl) ?_;repeat(go_big_quiet_step (exact Calls.quiet_of (ae.out _)))
   refine wpQuiet_nil ?_;intro _ ad;obtain⟨n1,rfl⟩:=ad;go_wp2
   exact⟨⟨j+1,rfl,by omega,by rw[yW,←Qj,hS.out];exact block_setCell (w:=wr.drewN n1) X.out _,(af.out.drewN n1).set _ _⟩,by simp[intOf];omega⟩
  ·obtain rfl:j=8:=by omega
   have D:=YN (k:= .u32) (N:=32) (fun z=>IntKind.wrap_u32 z) IVs 4 zs;have V:=(G.block q (by omega) (by omega)).trans HR.out;have O:(yW IVs (YO .u32 IVs 4 zs) 8)=yF .u32 IVs 4 zs:=jW _ _;rw[O]at r;clear G X O;go_wp2_with ((with_reducible show wpList _ _ _ (Oper.mk (some 31) _ _ _ _ _::_) _ _);refine wpList_load_row rfl 284 _ rfl (q+1) rfl _ _ _ _ r Tryz.underlying284 rfl (by rw[qg,D.1];kernel_rfl) ?_;refine wpList_store_row rfl 284 _ _ rfl q (qj .u32 (yF .u32 IVs 4 zs)) rfl rfl 284 _ V (by rw[qg,D.1];kernel_rfl) (by rw[qg,D.1];rfl) qy ?_)
   exact Bp (qH rfl _ _ _ _ _ _ _ rfl (setRow_heap _ _ _ _ _ _ V) Tryz.underlying284 rfl (by rw[qg,D.1];kernel_rfl)) rfl ⟨rfl,below_setRow (U.out.mono (by omega)) (by omega) _⟩
end Go.Proofs.YthjoojnlnlmljaaGreat
namespace Go.Proofs.YthjoojnlnlmljaaGreat
open Go.ChangeShapes Go.WideShapes Go.ChangeAt Go.RowKit Go.Joins Go.Shelf Go.Maps
open Go.Lib (hid)
attribute [local go_sem] Oper.semAt_some Y8
def qQ (n:Nat)(h:List Int):Nat→List Int
 | 0=>[]
 | i+1=>qQ n h i++qD (wd h i).toNat n
theorem Jn (n:Nat)(h:List Int): ∀i,(qQ n h i).length=n*i
 | 0=>rfl
 | i+1=>by rw[qQ,List.length_append,Jn n h i,qG,Nat.mul_succ]
theorem yE {N n:Nat}{L:List Int}(h:Words N n L){i:Nat}(hi:i<n):0≤wd L i∧wd L i<2^N:=by
 have e:wd L i=L[i]'(by rw[h.1];exact hi):=by unfold wd;simp[Lg,h.1,hi]
 rw[e];exact h.2 _ (List.getElem_mem _)
theorem qgx (x k:Nat):0≤byt x k∧byt x k≤255:=by unfold byt;omega
theorem zg (x k:Nat): ∀z∈qD x k,0≤z∧z≤255:=by
 intro z o;simp only[qD,List.mem_map]at o;obtain⟨j, -,rfl⟩:=o;exact qgx x j
theorem Jo (n:Nat)(h:List Int): ∀i,∀z∈qQ n h i,0≤z∧z≤255
 | 0,z,o=>by simp[qQ]at o
 | i+1,z,o=>by
  rw[qQ,List.mem_append]at o;rcases o with o|o
  ·exact Jo n h i z o
  ·exact zg _ _ z o
theorem qi {W W':World}{base:Nat}{e:TypeId}{size:Nat}{v:Value}{n:Nat}{xs:List Value}(h:W.ownsRow base e size v n xs)(J: ∀g,base≤g→g<W.heap.size→W'.heap[g]? =W.heap[g]?):W'.ownsRow base e size v n xs:=by
 refine⟨h.1,?_⟩;rcases h.2 with o|⟨g,D,q,G,o,r,I⟩
 ·exact .inl o
 ·exact .inr ⟨g,D,q,G,o,(J g o (Ai r).1).trans r,I⟩
theorem qgL {W:World}{base n:Nat}{v:Value}{zs:List Int}(h:W.ownsRow base 5 1 v n (zs.map qo))(r:0<n):
  ∃g o,v= .slice (some ⟨g,0,none⟩) n o∧g<W.heap.size∧ ∀j u,(zs.map qo)[j]? =some u→W.cell? (Addr.add ⟨g,0,none⟩ j)=some u:=by
 rcases h.2 with⟨rfl,D⟩|⟨g,o,q,rfl,G⟩
 ·omega
 ·exact⟨g,o,rfl,(h.lt g rfl).2,h.cells (g:=g) rfl⟩
theorem qe7 {zs:List Int}: ∀u∈zs.map qo,u.oneCell'=true:=by
 intro u o;obtain⟨z, -,rfl⟩:=List.mem_map.1 o;rfl
theorem yf {W:World}{base:Nat}{v:Value}{n:Nat}{zs:List Int}(h:W.ownsRow base 5 1 v n (zs.map qo)):Holds8 W v zs:=by
 have r:n=zs.length:=by have:=h.1;simpa using this.symm
 subst r;by_cases q:zs.length=0
 ·have:zs=[]:=List.length_eq_zero_iff.1 q
  subst this;rcases h.2 with⟨rfl, -⟩|⟨g,o,I,rfl, -⟩
  ·exact⟨none,0,rfl,.inl rfl⟩
  ·exact⟨_,o,rfl,.inl rfl⟩
 ·obtain⟨g,o,rfl,D,G⟩:=qgL h (Nat.pos_of_ne_zero q);refine⟨_,o,rfl,.inr ⟨g,0,rfl,D,fun i hi=>?_⟩⟩;have:=G i (.int .u8 (qp zs i)) (by simp[qo,qp,Lg,hi])
  rw[show(⟨g,0+i,none⟩:Addr)=Addr.add ⟨g,0,none⟩ i by by_cases h:i=0<;>simp[Addr.add,h]];exact this
theorem qgv (h:List Int)(hh:Words 64 8 h)(w:World):
  Calls Tryz.prog 185 #[.agg (qj .u64 h)] w fun e w'=> ∃v,e= .returned v∧w'.ownsRow w.heap.size 5 1 v 64 ((qQ 8 h 8).map qo)∧Below w.heap.size w w':=by
 obtain⟨i0,hi,af,ad,ai⟩:=info_parts Ql;obtain⟨q,ae⟩:=Ex w.heap.size;go_enter Tryz.func185,Tryz.ntmps185
 obtain⟨D,S⟩:=Ex (w.alloc (.cells (qj .u64 h) 274));have ak:D.heap.size=w.heap.size+1:=by rw[←S];simp
 have U:Below w.heap.size w D:=by rw[←S];exact(Below.refl w.heap.size w).alloc Nl _
 have ac:D.heap[q]? =some (.cells (qj .u64 h) 274 (0,0)):=by rw[←S];exact qe _ _ ae.symm
 obtain⟨w1,hr,r,o⟩:=run_make_own (P:=Tryz.prog) D w.heap.size 24 5 i0 (.int .u8 0) 1 Tryz.underlying24 hi af ad .i64 .i64 64 (by rw[ai];omega) (by unfold maxLen;omega) (by omega);have am:(Instr.makeSlice 24 (.int .i64 0) (.int .i64 64)).run Tryz.prog D= .ok (.slice (some ⟨D.heap.size,0,none⟩) 0 64) w1:=hr;have aj:w1.heap[q]? =some (.cells (qj .u64 h) 274 (0,0)):=(o.block q (by omega) (by simp)).trans ac;have ah:Below w.heap.size w w1:=U.grown o (by omega) (fun k e=>by cases e);obtain⟨bg,ag⟩:=Ex D.heap.size;have aq:q<bg:=by omega
 rw[ag]at am r;have HR:=hid aj;have HB:=hid ah;have HO:=hid r;have Y:=hid hh;clear hr o U ac ah r ak ag;rw[ae]at HO HB⊢;go_wp2_with ((with_reducible show wpList _ _ _ (Oper.mk _ (Op.load _ _) _ _ _ _::_) _ _);refine wpList_load_row rfl 274 _ rfl q rfl _ _ _ _ HR.out Tryz.underlying274 rfl (by rw[qg,Y.out.1];kernel_rfl) ?_)
 go_loopw [3,8] (fun s i wr=> ∃(k:Nat) (v:Value),s=v∧i= .int .i64 k∧k≤8∧wr.ownsRow q 5 1 v (8*k) ((qQ 8 h k).map qo)∧Below q w wr) (fun _ i _=>8 - (intOf i).toNat)
 case atStart=>exact⟨0,_,rfl,rfl,Nat.zero_le _,HO.out,HB.out⟩
 case round=>
  obtain⟨k,v,rfl,rfl,hk,G,Z⟩:=hrel;have av:=Z.size;by_cases V:k<8
  ·have ha:=qE (k:= .u64) Y.out V;obtain⟨x,hx⟩: ∃x:Nat,(x:Int)=wd h k:=⟨(wd h k).toNat,by have:=(yE Y.out V);omega⟩;rw[←hx]at ha;have an:(x:Int)≤18446744073709551615:=by have:=(yE Y.out V);omega
   have X:(wd h k).toNat=x:=by omega
   have e1:(qQ 8 h (k+1)).map qo=(qQ 8 h k).map qo++(qD x 8).map qo:=by rw[qQ,List.map_append,X]
   have E1:=hid e1;have OW:=hid G;have BW:=hid Z;clear e1 G Z hx X;go_wp2_with fail
   refine(Ju x an _).mono ?_;rintro e2 w2 ⟨v2,rfl,aa,J⟩
   have O:=qi OW.out (W':=w2) (fun g _ hg=>J.block g hg);have ao:Below q w w2:=BW.out.trans (J.mono (by omega));have au:=J.size;obtain⟨g2,c2,rfl,ar,ap⟩:=qgL aa (by decide);clear J;go_wp2_with (at_builtin;refine wpList_append_own _ rfl _ _ 24 rfl q 5 i0 (.int .u8 0) 1 1 Tryz.underlying24 hi af ad ai rfl (by decide) _ _ _ rfl O ⟨g2,0,none⟩ 8 c2 ((qD x 8).map qo) rfl (by rw[List.length_map,qG]) ap qe7 (by unfold maxLen;omega) (by omega) (by omega) ?_;intro v' w3 I ab _;have al:Below q w w3:=ao.grown ab (by omega) (fun k e=>(O.lt k e).1))
   rw[←E1.out,←Nat.mul_succ]at I;exact⟨⟨k+1,v',rfl,rfl,by omega,I,al⟩,by simp[intOf];omega⟩
  ·obtain rfl:k=8:=by omega
   go_wp2
   go_ret
   exact⟨_,rfl,G,Z⟩
attribute [local go_sem] Oper.semAt_some Y8
theorem qgr (W:World)(a0 a1 a2 o:Value)(T:TypeId): ∀j u,[a0,a1,a2,o][j]? =some u→(W.alloc (.cells #[a0,a1,a2,o] T)).cell? (Addr.add ⟨W.heap.size,0,none⟩ j)=some u:=by
 intro j u q;have h:=qd (Wn W (.cells #[a0,a1,a2,o] T)) j;rw[show Addr.add ⟨W.heap.size,0,none⟩ j=⟨W.heap.size,j,none⟩ by first|(simp[Addr.add];done)|(simp[Addr.add];omega),h];simpa using q
theorem qgw (h:List Int)(hh:Words 32 8 h)(w:World):
  Calls Tryz.prog 188 #[.agg (qj .u32 h)] w fun e w'=> ∃v,e= .returned v∧w'.ownsRow w.heap.size 5 1 v 32 ((qQ 4 h 8).map qo)∧Below w.heap.size w w':=by
 obtain⟨i0,hi,ab,Z,ae⟩:=info_parts Ql;obtain⟨q,aa⟩:=Ex w.heap.size;go_enter Tryz.func188,Tryz.ntmps188
 obtain⟨D,J⟩:=Ex (w.alloc (.cells (qj .u32 h) 284));have ag:D.heap.size=w.heap.size+1:=by rw[←J];simp
 have O:Below w.heap.size w D:=by rw[←J];exact(Below.refl w.heap.size w).alloc Nl _
 have Y:D.heap[q]? =some (.cells (qj .u32 h) 284 (0,0)):=by rw[←J];exact qe _ _ aa.symm
 obtain⟨w1,hr,r,o⟩:=run_make_own (P:=Tryz.prog) D w.heap.size 24 5 i0 (.int .u8 0) 1 Tryz.underlying24 hi ab Z .i64 .i64 32 (by rw[ae];omega) (by unfold maxLen;omega) (by omega);have ai:(Instr.makeSlice 24 (.int .i64 0) (.int .i64 32)).run Tryz.prog D= .ok (.slice (some ⟨D.heap.size,0,none⟩) 0 32) w1:=hr;have af:w1.heap[q]? =some (.cells (qj .u32 h) 284 (0,0)):=(o.block q (by omega) (by simp)).trans Y;have ad:Below w.heap.size w w1:=O.grown o (by omega) (fun k e=>by cases e);obtain⟨bg,ac⟩:=Ex D.heap.size;have aj:q<bg:=by omega
 rw[ac]at ai r;have HR:=hid af;have HB:=hid ad;have HO:=hid r;have V:=hid hh;clear hr o O Y ad r ag ac;rw[aa]at HO HB⊢;go_wp2_with ((with_reducible show wpList _ _ _ (Oper.mk _ (Op.load _ _) _ _ _ _::_) _ _);refine wpList_load_row rfl 284 _ rfl q rfl _ _ _ _ HR.out Tryz.underlying284 rfl (by rw[qg,V.out.1];kernel_rfl) ?_)
 go_loopw [3,8] (fun s i wr=> ∃(k:Nat) (v:Value),s=v∧i= .int .i64 k∧k≤8∧wr.ownsRow q 5 1 v (4*k) ((qQ 4 h k).map qo)∧Below q w wr) (fun _ i _=>8 - (intOf i).toNat)
 case atStart=>exact⟨0,_,rfl,rfl,Nat.zero_le _,HO.out,HB.out⟩
 case round=>
  obtain⟨k,v,rfl,rfl,hk,G,hb⟩:=hrel;have al:=hb.size;by_cases S:k<8
  ·have ha:=qE (k:= .u32) V.out S;obtain⟨x,hx⟩: ∃x:Nat,(x:Int)=wd h k:=⟨(wd h k).toNat,by have:=(yE V.out S);omega⟩;rw[←hx]at ha;have ak:(x:Int)≤4294967295:=by have:=(yE V.out S);omega
   have U:(wd h k).toNat=x:=by omega
   have q0:(x:Int)%256=byt x 0:=by have:=Zm x 0;simpa using this
   have q1:(x:Int)/256%256=byt x 1:=Zm x 1;have q2:(x:Int)/65536%256=byt x 2:=Zm x 2;have q3:(x:Int)/16777216=byt x 3:=by
    have h3:(x:Int)/16777216%256=byt x 3:=Zm x 3;rw[←h3];omega
   have e1:(qQ 4 h (k+1)).map qo=(qQ 4 h k).map qo++[.int .u8 (byt x 0),.int .u8 (byt x 1),.int .u8 (byt x 2),.int .u8 (byt x 3)]:=by rw[qQ,List.map_append,U];rfl
   have E1:=hid e1;clear e1 hx U;go_wp2_with (at_builtin;refine wpList_append_own _ rfl _ _ 24 rfl q 5 i0 (.int .u8 0) 1 1 Tryz.underlying24 hi ab Z ae rfl (by decide) _ _ _ rfl (G.alloc _) ⟨wr.heap.size,0,none⟩ 4 4 [.int .u8 (byt x 0),.int .u8 (byt x 1),.int .u8 (byt x 2),.int .u8 (byt x 3)] rfl rfl (qgr _ _ _ _ _ _) (by simp[Value.oneCell']) (by unfold maxLen;omega) (by omega) (by simp;omega) ?_;intro v' w2 I X _;have ah:Below q w w2:=(hb.alloc (by omega) _).grown X (by simp;omega) (fun k e=>(G.lt k e).1))
   rw[←E1.out,←Nat.mul_succ]at I;exact⟨⟨k+1,v',rfl,rfl,by omega,I,ah⟩,by simp[intOf];omega⟩
  ·obtain rfl:k=8:=by omega
   go_wp2
   go_ret
   exact⟨_,rfl,G,hb⟩
end Go.Proofs.YthjoojnlnlmljaaGreat
namespace Go.Proofs.YthjoojnlnlmljaaGreat
open Go.ChangeShapes Go.WideShapes Go.ChangeAt Go.RowKit Go.Joins Go.Shelf Go.Maps
open Go.Lib (hid)
attribute [local go_sem] Oper.semAt_some
def SrcIs (w:World)(x:Value)(m:Nat)(news:List Value):Prop:=
 news.length=m∧(∀u∈news,u.oneCell'=true)∧((x= .slice none 0 0∧m=0)∨ ∃ad c,x= .slice (some ad) m c∧ ∀j u,news[j]? =some u→w.cell? (ad.add j)=some u)
theorem SrcIs.below {w w':World}{x:Value}{m:Nat}{o:List Value}(h:SrcIs w x m o)(G:Below w.heap.size w w'):SrcIs w' x m o:=by
 refine⟨h.1,h.2.1,?_⟩;rcases h.2.2 with q|⟨D,c,e,q⟩
 ·exact .inl q
 ·refine .inr ⟨D,c,e,fun j u r=>?_⟩;have:=q j u r
  rw[G.cell (World.block_lt_of_cell? w _ this)];exact this
theorem qbF {P:Program}{w W:World}{B:Nat}(hB:B=W.heap.size)(G:Below B W w)(t S e:TypeId)(i:TypeInfo)(z:Value)(bytes:Nat)(Z:P.underlying t=some (.slice e))(hi:P.info? e=some i)(hz:i.zero=some z)
  (D:i.size=1) (Y:i.bytes=bytes) (V:z.cells.size=1) (v:Value) (n:Nat) (xs:List Value) (o:w.ownsRow B e 1 v n xs)
  (x:Value) (m:Nat) (q:List Value) (O:SrcIs w x m q) (X:n+m≤maxLen) (r:(n+m)*bytes≤140737488355328):
  ∃v' w',(Builtin.append_ #[t,t] S #[v,x]).run P w= .ok v' w'∧w'.ownsRow B e 1 v' (n+m) (xs++q)∧Below B W w':=by
 subst hB;obtain⟨h1,h2,U⟩:=O;rcases U with⟨rfl,rfl⟩|⟨ad,c,rfl,U⟩
 ·obtain rfl:q=[]:=List.eq_nil_of_length_eq_zero h1;exact⟨v,w,run_append_owned_none w W.heap.size t S e i 1 Z hi v n xs o,by simpa using o,G⟩
 ·obtain⟨v',w',hr,J,I, -⟩:=run_append_own (P:=P) w W.heap.size t S e i z 1 bytes Z hi hz D Y V (by omega) v n xs o ad m c q (by omega) U h2 X r G.size;exact⟨v',w',hr,J,G.grown I G.size (fun k e=>(o.lt k e).1)⟩
theorem qbc {P:Program}{w:World}{ops:Array Oper}{o:Oper}{a:Act}{K:Act→World→Prop}{Q:Exit→Act→World→Prop}{E:Prop}(U:o.guard=none)(s x:Operand)(t:TypeId)
  (ho:o.op= .call { callee:= .builtin .append,args:= #[s,x],argTypes:= #[t,t] }) (W:World) (B:Nat) (Z:B=W.heap.size) (hb:Below B W w)
  (e:TypeId) (i:TypeInfo) (z:Value) (bytes:Nat) (ht:P.underlying t=some (.slice e)) (hi:P.info? e=some i) (hz:i.zero=some z)
  (D:i.size=1) (S:i.bytes=bytes) (J:z.cells.size=1) (v:Value) (n:Nat) (xs:List Value) (hs:a.eval s=v) (I:w.ownsRow B e 1 v n xs)
  (u:Value) (m:Nat) (q:List Value) (X:a.eval x=u) (G:SrcIs w u m q) (O:n+m≤maxLen) (r:(n+m)*bytes≤140737488355328)
  (h: ∀v' w',w'.ownsRow B e 1 v' (n+m) (xs++q)→Below B W w'→K (a.put o.dst v') w'):
  if Region.wanted o (yielded ops a.tmps)=true then Oper.wp P o a w K Q else E:=by
 have hw:Region.wanted o (yielded ops a.tmps)=true:=by simp[Region.wanted,U]
 rw[if_pos hw];obtain⟨v',w',V,Y,h3⟩:=qbF (P:=P) Z hb t o.type e i z bytes ht hi hz D S J v n xs I u m q G O r;unfold Oper.wp execOp;simp only[ho,resolve,invoke,builtin,Sem.run_bind,Sem.run_pure,Result.andThen_ok,List.map_toArray,List.map_cons,List.map_nil,hs,X,V];exact h v' w' Y h3
theorem qfC {w:World}{B n:Nat}{e:TypeId}{v:Value}{xs:List Value}(h:w.ownsRow B e 1 v n xs)(q: ∀u∈xs,u.oneCell'=true):SrcIs w v n xs:=by
 refine⟨by have:=h.1;omega,q,?_⟩;rcases h.2 with⟨rfl,rfl⟩|⟨g,o,r,rfl, -⟩
 ·exact .inl ⟨rfl,rfl⟩
 ·exact .inr ⟨⟨g,0,none⟩,o,rfl,h.cells (g:=g) rfl⟩
theorem qU {P:Program}{w:World}{ops:Array Oper}{o:Oper}{l:List Oper}{a:Act}{Q:Exit→Act→World→Prop}(G:o.guard=none)(s x:Operand)(t:TypeId)
  (Z:o.op= .call { callee:= .builtin .append,args:= #[s,x],argTypes:= #[t,t] }) (W:World) (B:Nat) (Y:B=W.heap.size) (hb:Below B W w)
  (e:TypeId) (i:TypeInfo) (z:Value) (bytes:Nat) (ht:P.underlying t=some (.slice e)) (hi:P.info? e=some i) (hz:i.zero=some z)
  (D:i.size=1) (U:i.bytes=bytes) (O:z.cells.size=1) (v:Value) (n:Nat) (xs:List Value) (hs:a.eval s=v) (J:w.ownsRow B e 1 v n xs)
  (u:Value) (m:Nat) (q:List Value) (X:a.eval x=u) (I:SrcIs w u m q) (S:n+m≤maxLen) (r:(n+m)*bytes≤140737488355328)
  (h: ∀v' w',w'.ownsRow B e 1 v' (n+m) (xs++q)→Below B W w'→wpList P ops Q l (a.put o.dst v') w'):wpList P ops Q (o::l) a w:=by
 have V:Region.wanted o (yielded ops a.tmps)=true:=by simp[Region.wanted,G]
 unfold wpList;rw[if_pos V];refine .inl ?_;have H:=qbc (ops:=ops) (K:=wpList P ops Q l) (Q:=Q) (E:=True) G s x t Z W B Y hb e i z bytes ht hi hz D U O v n xs hs J u m q X I S r h;rw[if_pos V]at H;exact H
def Qp (zs:List Int):Nat→Nat
 | 0=>0
 | k+1=>if qp zs k=0 then Qp zs k else k+1
theorem Z6 (zs:List Int): ∀k,Qp zs k≤k
 | 0=>Nat.le_refl _
 | k+1=>by
  unfold Qp;split
  ·exact Nat.le_succ_of_le (Z6 zs k)
  ·exact Nat.le_refl _
theorem qbx (zs:List Int): ∀k j,Qp zs k≤j→j<k→qp zs j=0
 | 0,j,_,h=>by omega
 | k+1,j,h1,h2=>by
  unfold Qp at h1;split at h1
  ·rename_i h;by_cases e:j=k
   ·rw[e];exact h
   ·exact qbx zs k j h1 (by omega)
  ·omega
theorem qeh {w:World}{b off n o:Nat}{zs:List Int}(h:Qx w b off zs)(G:n≤zs.length):SrcIs w (.slice (some ⟨b,off,none⟩) n o) n ((zs.take n).map qo):=by
 refine⟨by simp;omega,?_,.inr ⟨⟨b,off,none⟩,o,rfl,?_⟩⟩
 ·intro u D;obtain⟨z, -,rfl⟩:=List.mem_map.1 D;rfl
 ·intro j u r;obtain⟨q,rfl⟩:=List.getElem?_eq_some_iff.1 r;simp at q
  rw[Go.WideShapes.add_plain,h.2 j (by omega)];simp[qo,qp,Lg,show j<zs.length by omega]
theorem qbw (zs:List Int)(b off r:Nat)(w:World)(U:Qx w b off zs)(aa:zs.length≤r)(hm:zs.length≤4294967296):
  Calls Tryz.prog 159 #[.slice (some ⟨b,off,none⟩) zs.length r] w fun e w'=> ∃v',e= .returned v'∧w'.ownsRow w.heap.size 5 1 v' (Qp zs zs.length) ((zs.take (Qp zs zs.length)).map qo)∧Below w.heap.size w w':=by
 obtain⟨Y,hi,J,I,S⟩:=info_parts Ql;obtain⟨h1,Z⟩:=id U;have HC:=hid Z;have HB:=hid U;clear Z U;go_enter Tryz.func159,Tryz.ntmps159
 go_wp2_with fail
 go_loopw [3] (fun i wr=> ∃k:Nat,i= .int .i64 k∧wr=w∧k≤zs.length∧Qp zs k=Qp zs zs.length) (fun i _=>(intOf i).toNat)
 case atStart=>exact⟨zs.length,rfl,rfl,Nat.le_refl _,rfl⟩
 case round=>
  obtain⟨k,rfl,rfl,hk,O⟩:=hrel;have V:=hid O;clear O
  cases k with
  | zero=>
   have k5:(0:Int)≤r:=by omega
   have hN:=Z6 zs zs.length;have X:=hid (show Qp zs zs.length=0 from V.out.symm);go_wp2_with (at_builtin;refine qU rfl _ _ _ rfl wr wr.heap.size rfl (by repeat(first|exact Below.refl _ _|refine Below.drew ?_)) 5 Y (.int .u8 0) 1 Tryz.underlying24 hi J I S rfl _ 0 [] rfl (Wo _ _ _ _) _ 0 _ rfl (qeh (n:=0) HB.out (by omega)) (by unfold maxLen;omega) (by omega) ?_;intro v' w2 o G)
   go_ret
   refine⟨_,rfl,?_,G⟩;rw[X.out];exact o
  | succ j=>
   have hc:=HC.out j (by omega);have k1:((j+1:Nat):Int) - 1=(j:Nat):=by omega
   have k2:0≤(j:Int)∧(j:Int)<4294967296:=by omega
   obtain⟨k3,k4⟩:=k2;have k5:(j:Int)+1≤r:=by omega
   by_cases D:qp zs j=0
   ·rw[D]at hc;go_wp2
    exact⟨⟨j,rfl,by trivial,by omega,by rw[←V.out];simp[Qp,D]⟩,by simp[intOf]⟩
   ·have X:=hid (show j+1=Qp zs zs.length by rw[←V.out];simp[Qp,D]);have q:=beq_eq_false_iff_ne.2 D;have q2:(qp zs j==0)=false:=q;generalize qp zs j=z at hc D q q2;clear q D;go_wp2_with (at_builtin;refine qU rfl _ _ _ rfl wr wr.heap.size rfl (by repeat(first|exact Below.refl _ _|refine Below.drew ?_)) 5 Y (.int .u8 0) 1 Tryz.underlying24 hi J I S rfl _ 0 [] rfl (Wo _ _ _ _) _ (j+1) _ rfl (qeh (n:=j+1) HB.out (by omega)) (by unfold maxLen;omega) (by omega) ?_;intro v' w2 o G)
    go_ret
    refine⟨_,rfl,?_,G⟩;rw[←X.out];simpa using o
theorem Ji (zs:List Int)(b off V:Nat)(w:World)(Z:Qx w b off zs)(ai:zs.length≤V)(hm:zs.length≤4294967296):
  Calls Tryz.prog 190 #[.slice (some ⟨b,off,none⟩) zs.length V] w fun e w'=> ∃v',e= .returned v'∧w'.ownsRow w.heap.size 5 1 v' (Qp zs zs.length) ((zs.take (Qp zs zs.length)).map qo)∧Below w.heap.size w w':=by
 obtain⟨i0,hi,ac,aa,ah⟩:=info_parts Ql;obtain⟨h1,h2⟩:=id Z;have Y:=hid h2;have HB:=hid Z;obtain⟨N,hN⟩:=Ex (Qp zs zs.length);have ag:=Z6 zs zs.length;rw[hN]at ag⊢;have HN:=hid hN;clear h2 Z hN;go_enter Tryz.func190,Tryz.ntmps190
 go_wp2_with fail
 go_loopw [3] (fun i wr=> ∃k:Nat,i= .int .i64 k∧w=wr∧k≤zs.length∧Qp zs k=N) (fun i _=>(intOf i).toNat)
 case atStart=>exact⟨zs.length,rfl,rfl,Nat.le_refl _,HN.out⟩
 case round=>
  obtain⟨k,rfl,rfl,hk,S⟩:=hrel;have HE:=hid S;clear S;by_cases D: ∃j,k=j+1∧qp zs j=0
  ·obtain⟨j,rfl,hj⟩:=D;have hc:=Y.out j (by omega);have k1:((j+1:Nat):Int) - 1=(j:Nat):=by omega
   have k3:0≤(j:Int):=by omega
   have k4:(j:Int)<4294967296:=by omega
   rw[hj]at hc;go_wp2
   exact⟨⟨j,rfl,by trivial,by omega,by rw[←HE.out];simp[Qp,hj]⟩,by simp[intOf]⟩
  ·have ek:k=N:=by
    rw[←HE.out]
    cases k with
    | zero=>rfl
    | succ j=>simp only[Qp];rw[if_neg (fun h=>D ⟨j,rfl,h⟩)]
   have af:k=0∨ ∃j z,k=j+1∧w.cell? ⟨b,off+j,none⟩=some (.int .u8 z)∧(z==0)=false:=by
    cases k with
    | zero=>exact .inl rfl
    | succ j=>exact .inr ⟨j,qp zs j,rfl,Y.out j (by omega),beq_eq_false_iff_ne.2 (fun h=>D ⟨j,rfl,h⟩)⟩
   clear D;subst ek;rcases af with G|⟨j,z,G,hc,hq⟩
   case inl=>
    subst G;go_wp2_with fail
    go_loopw [4,5] (fun o i J=> ∃(m:Nat) (v:Value),o=v∧i= .int .i64 m∧m≤0∧J.ownsRow w.heap.size 5 1 v m ((zs.take m).map qo)∧Below w.heap.size w J) (fun _ i _=>0 - (intOf i).toNat)
    case atStart=>exact⟨0,_,rfl,rfl,by omega,Wo _ _ _ _,Below.refl _ _⟩
    case round=>
     obtain⟨i,v,rfl,rfl,ab,q,r⟩:=hrel;have X:=r.size;by_cases U:i<0
     ·exact absurd U (by omega)
     ·obtain rfl:i=0:=by omega
      go_wp2
      go_ret
      exact⟨_,rfl,q,r⟩
   case inr=>
    have HK:=hid G;have k1:((j+1:Nat):Int) - 1=(j:Nat):=by omega
    have k3:0≤(j:Int):=by omega
    have k4:(j:Int)<4294967296:=by omega
    subst G;go_wp2_with fail
    go_loopw [4,5] (fun o i J=> ∃(m:Nat) (v:Value),o=v∧i= .int .i64 m∧m≤j+1∧J.ownsRow w.heap.size 5 1 v m ((zs.take m).map qo)∧Below w.heap.size w J) (fun _ i _=>j+1 - (intOf i).toNat)
    case atStart=>exact⟨0,_,rfl,rfl,by omega,Wo _ _ _ _,Below.refl _ _⟩
    case round=>
     clear hc hq k1 k3 k4;obtain⟨i,v,rfl,rfl,ab,q,r⟩:=hrel;have X:=r.size;by_cases U:i<j+1
     ·have ae:=(r.cell (p:=⟨b,off+i,none⟩) h1).trans (Y.out i (by omega));have e1:=hid (show(zs.take (i+1)).map qo=(zs.take i).map qo++[.int .u8 (qp zs i)] by
       rw[List.take_add_one,List.map_append];simp[qp,Lg,show i<zs.length by omega,qo])
      generalize qp zs i=y at ae e1;go_wp2_with (at_builtin;refine wpList_append_own _ rfl _ _ 24 rfl w.heap.size 5 i0 (.int .u8 0) 1 1 Tryz.underlying24 hi ac aa ah rfl (by decide) _ _ _ rfl (q.alloc _) ⟨wr.heap.size,0,none⟩ 1 1 [.int .u8 y] rfl rfl (cell_one_new _ _ _) (by simp[Value.oneCell']) (by unfold maxLen;omega) (by omega) (by simp;omega) ?_;intro v' w2 I O _;have ad:Below w.heap.size w w2:=(r.alloc X _).grown O (by simp;omega) (fun k e=>(q.lt k e).1))
      rw[←e1.out]at I;exact⟨⟨i+1,v',rfl,rfl,by omega,I,ad⟩,by simp[intOf];omega⟩
     ·obtain rfl:i=j+1:=by omega
      go_wp2
      go_ret
      exact⟨_,rfl,q,r⟩
theorem qcQ (big:Bool)(a:Option Addr)(n q:Nat)(w:World):
  Calls Tryz.prog 127 #[.int .i64 (kB big),.slice a n q] w fun e w'=>(∃x,e= .returned (.int .i64 x)∧(x=0↔n=mB big))∧w'=w:=by
 have o:=jf big
 cases big
 case' false=>
  change ∀w:World,Calls Tryz.prog 126 #[.int .i64 2] w fun e w'=>e= .returned (.tuple #[.int .i64 32,.int .i64 32,.int .i64 8])∧w'=w at o
  change Calls _ _ #[.int .i64 2,_] _ fun e w'=>(∃x,e= .returned (.int .i64 x)∧(x=0↔n=32))∧_
  obtain⟨N,r⟩: ∃N:Nat,N=32:=⟨_,rfl⟩
 case' true=>
  change ∀w:World,Calls Tryz.prog 126 #[.int .i64 1] w fun e w'=>e= .returned (.tuple #[.int .i64 64,.int .i64 64,.int .i64 16])∧w'=w at o
  change Calls _ _ #[.int .i64 1,_] _ fun e w'=>(∃x,e= .returned (.int .i64 x)∧(x=0↔n=64))∧_
  obtain⟨N,r⟩: ∃N:Nat,N=64:=⟨_,rfl⟩
 all_goals
  by_cases D:n<N
  case' neg=>by_cases G:N<n
  all_goals
   subst r;go_enter Tryz.func127,Tryz.ntmps127
   go_wp2_with fail
   refine(o _).mono ?_;rintro e w1 ⟨rfl,rfl⟩;go_wp2_with fail
   go_ret
   exact⟨⟨_,rfl,by omega⟩,rfl⟩
theorem qcK (big:Bool)(a:Option Addr)(n r:Nat)(w:World):
  Calls Tryz.prog 172 #[.int .i64 (kB big),.slice a n r] w fun e w'=>(∃x,e= .returned (.int .i64 x)∧(x=0↔n=mB big))∧w'=w:=by
 have q:=YB big;have o:=Jw big
 cases big
 case' false=>
  change ∀w:World,Calls Tryz.prog 167 #[.int .i64 2] w fun e w'=>e= .returned (.int .i64 32)∧w'=w at q
  change ∀w:World,Calls Tryz.prog 164 #[.int .i64 2] w fun e w'=>e= .returned (.int .i64 32)∧w'=w at o
  change Calls _ _ #[.int .i64 2,_] _ fun e w'=>(∃x,e= .returned (.int .i64 x)∧(x=0↔n=32))∧_
  obtain⟨N,D⟩: ∃N:Nat,N=32:=⟨_,rfl⟩
 case' true=>
  change ∀w:World,Calls Tryz.prog 167 #[.int .i64 1] w fun e w'=>e= .returned (.int .i64 64)∧w'=w at q
  change ∀w:World,Calls Tryz.prog 164 #[.int .i64 1] w fun e w'=>e= .returned (.int .i64 64)∧w'=w at o
  change Calls _ _ #[.int .i64 1,_] _ fun e w'=>(∃x,e= .returned (.int .i64 x)∧(x=0↔n=64))∧_
  obtain⟨N,D⟩: ∃N:Nat,N=64:=⟨_,rfl⟩
 all_goals
  by_cases G:n<N
  case' neg=>by_cases I:N<n
  all_goals
   subst D;go_enter Tryz.func172,Tryz.ntmps172
   go_wp2_with fail
   refine(q _).mono ?_;rintro e w1 ⟨rfl,rfl⟩;go_wp2_with fail
   refine(o _).mono ?_;rintro e w1 ⟨rfl,rfl⟩;go_wp2_with fail
   try(refine(o _).mono ?_;rintro e w1 ⟨rfl,rfl⟩;go_wp2_with fail)
   go_ret
   exact⟨⟨_,rfl,by omega⟩,rfl⟩
def atB (big:Bool):Nat→Nat
 | 1=>0|2=>1|3=>2|4=>3|5=>4|6=>8|7=>12
 | 8=>cond big 16 14
 | _=>cond big 17 15
def szB (big:Bool):Nat→Nat
 | 5=>4
 | 6=>cond big 8 6
 | 7=>cond big 4 2
 | _=>1
theorem jU (big:Bool)(f:Nat)(o:1≤f∧f≤9)(w:World):
  Calls Tryz.prog 165 #[.int .i64 (kB big),.int .i64 f] w fun e w'=>e= .returned (.tuple #[.int .i64 (atB big f),.int .i64 (szB big f)])∧w'=w:=by
 have h:f=1∨f=2∨f=3∨f=4∨f=5∨f=6∨f=7∨f=8∨f=9:=by omega
 clear o;rcases h with rfl|rfl|rfl|rfl|rfl|rfl|rfl|rfl|rfl<;>cases big<;>
 ·simp only[kB,atB,szB,cond];go_enter Tryz.func165,Tryz.ntmps165
  go_wp2
  exact Bp (results_tmp2 (fn:=Tryz.f165) (t:=4) (u:=5) rfl _ _ _) rfl ⟨rfl,rfl⟩
def qka (big:Bool)(w:World)(b:Nat):Prop:=b<w.heap.size∧ ∀f,1≤f→f≤9→w.cell? ⟨b,(f - 1)*5,none⟩=some (.int .i64 f)∧w.cell? ⟨b,(f - 1)*5+1,none⟩=some (.int .i64 (atB big f))∧w.cell? ⟨b,(f - 1)*5+2,none⟩=some (.int .i64 (szB big f))
theorem JW:(Tryz.prog.info? 219).map (fun i=>(i.zero,i.size,i.bytes))=some (some (.agg #[.int .i64 0,.int .i64 0,.int .i64 0,.string ⟨#[]⟩,.int .i64 0]),5,48):=by kernel_rfl
theorem qgH (big:Bool)(w:World):
  Calls Tryz.prog 128 #[.int .i64 (kB big)] w fun e w'=>(∃b,e= .returned (.slice (some ⟨b,0,none⟩) 9 9)∧w.heap.size≤b∧qka big w' b)∧Below w.heap.size w w':=by
 cases hie:Tryz.prog.info? 219 with
 | none=>have:=JW;rw[hie]at this;cases this
 | some ie=>
 have hi:=JW;rw[hie]at hi;simp only[Option.map_some,Option.some.injEq,Prod.mk.injEq]at hi;obtain⟨q,o, -⟩:=hi
 cases big<;>
 ·simp only[kB,cond];go_enter Tryz.func128,Tryz.ntmps128
  go_wp2_with ((with_reducible show wpList _ _ _ (Oper.mk _ (Op.buildSlice _ _ _) _ _ _ _::_) _ _);refine wpList_buildSlice rfl 215 219 9 _ rfl rowCells ie _ Tryz.underlying215 hie q (by rw[o];decide) (by rw[o];decide) (by rw[o];rfl) ?_)
  go_ret
  refine⟨⟨_,rfl,Nat.le_refl _,by simp,fun f r D=>?_⟩,Br.alloc Nl _⟩;have h:f=1∨f=2∨f=3∨f=4∨f=5∨f=6∨f=7∨f=8∨f=9:=by omega
  rcases h with rfl|rfl|rfl|rfl|rfl|rfl|rfl|rfl|rfl<;>exact⟨(qd (Wn w _) _).trans rfl,(qd (Wn w _) _).trans rfl,(qd (Wn w _) _).trans rfl⟩
end Go.Proofs.YthjoojnlnlmljaaGreat
