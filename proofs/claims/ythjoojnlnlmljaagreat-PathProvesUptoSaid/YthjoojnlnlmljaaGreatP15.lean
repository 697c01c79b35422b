/- A block's words, by the program and by the reference: the big kind. No condition. -/
import Derived.Test.YthjoojnlnlmljaaGreatP05
import Derived.Test.YthjoojnlnlmljaaGreatP14
import Derived.Laws.MakeOwn
import Derived.Test.YthjoojnlnlmljaaGreatP07
import Derived.Deep.RegionHeld3
import Derived.Laws.AppendOwnNone
set_option linter.all false
set_option maxRecDepth 100000
set_option maxHeartbeats 8000000
namespace Go.Proofs.YthjoojnlnlmljaaGreat
open Go.ChangeShapes Go.WideShapes Go.ChangeAt Go.RowKit Go.Joins Go.Shelf Go.Maps
open Go.Lib (hid)
attribute [local go_sem] Oper.semAt_some
def QZ (n c:Nat)(zs:List Int):List Int:=(List.range c).map fun i=>Qi zs (n*i) n
def yL (n c:Nat)(zs:List Int):Nat→List Int
 | 0=>List.replicate c 0
 | j+1=>(yL n c zs j).set j (Qi zs (n*j) n)
theorem yJ (n c:Nat)(zs:List Int): ∀j,(yL n c zs j).length=c
 | 0=>by simp[yL]
 | j+1=>by simp[yL,yJ n c zs j]
theorem qeh (n c:Nat)(zs:List Int): ∀j i,i<j→i<c→(yL n c zs j)[i]? =some (Qi zs (n*i) n)
 | j+1,i,h,hc=>by
  simp only[yL];by_cases e:i=j
  ·subst e;rw[List.getElem?_set_self (by rw[yJ];exact hc)]
  ·rw[List.getElem?_set_ne (Ne.symm e)];exact qeh n c zs j i (by omega) hc
theorem jK (n c:Nat)(zs:List Int):yL n c zs c=QZ n c zs:=by
 apply List.ext_getElem?
 intro i;by_cases h:i<c
 ·rw[qeh n c zs c i h h];simp[QZ,h]
 ·rw[List.getElem?_eq_none (by rw[yJ];omega),List.getElem?_eq_none (by simp[QZ];omega)]
theorem yi (n c:Nat){zs:List Int}(q: ∀z∈zs,0≤z∧z≤255)(D:zs.length=n*c):Words (8*n) c (QZ n c zs):=by
 refine⟨by simp[QZ],fun x o=>?_⟩;simp only[QZ,List.mem_map,List.mem_range]at o;obtain⟨i,r,rfl⟩:=o;have:n*i+n≤n*c:=by
  rw[←Nat.mul_succ];exact Nat.mul_le_mul_left n r
 exact QL q n (by omega)
theorem Holds8.slice {w:World}{v:Value}{zs:List Int}(h:Holds8 w v zs): ∃a o,v= .slice a zs.length o:=by
 obtain⟨a,o,e, -⟩:=h;exact⟨a,o,e⟩
theorem qbC (zs:List Int)(v:Value)(at_:Nat)(w:World)(h:Holds8 w v zs)(r: ∀z∈zs,0≤z∧z≤255)(o:at_+8≤zs.length)(q:zs.length≤4294967296):
  Calls Tryz.prog 90 #[v,.int .i64 (at_:Nat)] w fun e w'=>e= .returned (.tuple #[.int .u64 (Qi zs at_ 8),.int .i64 0])∧w'=w:=by
 have H:=hid (qgx zs v at_ w h r o q);go_enter Tryz.func90,Tryz.ntmps90
 go_wp2_with fail
 refine H.out.mono ?_;rintro e w1 ⟨rfl,rfl⟩;go_wp2
 exact Bp (results_tmp2 rfl _ _ _) rfl ⟨rfl,rfl⟩
theorem qeE (zs:List Int)(v:Value)(w:World)(h:Holds8 w v zs)(hz: ∀z∈zs,0≤z∧z≤255)(X:zs.length=128):
  Calls Tryz.prog 198 #[v] w fun e w'=>e= .returned (.tuple #[.agg (qj .u64 (QZ 8 16 zs)),.int .i64 0])∧Below w.heap.size w w':=by
 obtain⟨a,ab,rfl⟩:=h.slice;obtain⟨q,ac⟩:=Ex w.heap.size;have H:=hid h;have HZ:=hid hz;have V:=hid X;rw[X]at H⊢;clear h hz X;go_enter Tryz.func198,Tryz.ntmps198
 go_wp2_with fail
 refine qn ?_;intro W G;have hr:W.heap[q]? =some (.cells #[.int .u64 0,.int .u64 0,.int .u64 0,.int .u64 0,.int .u64 0,.int .u64 0,.int .u64 0,.int .u64 0,.int .u64 0,.int .u64 0,.int .u64 0,.int .u64 0,.int .u64 0,.int .u64 0,.int .u64 0,.int .u64 0] 252 (0,0)):=by
  rw[G];exact(Bh _ _ _ (by simp;omega)).trans (qe _ _ ac.symm)
 have r:W.heap[q+1]? =some (.cells (qj .u64 (yL 8 16 zs 0)) 252 (0,0)):=by
  rw[G];exact qe _ _ (by simp;omega)
 have D:Below w.heap.size w W:=by
  rw[G];exact((Below.refl w.heap.size w).alloc Nl _).alloc (by simp) _
 have ad:q+1<W.heap.size:=(Ai r).1;clear G;have HR:=hid hr;have HV:=hid r;have Z:=hid D;clear hr r D;go_loopw [10] (fun i wr=> ∃j:Nat,i= .int .i64 j∧j≤16∧wr.heap[q+1]? =some (.cells (qj .u64 (yL 8 16 zs j)) 252 (0,0))∧But (q+1) W wr) (fun i _=>16 - (intOf i).toNat)
 case atStart=>exact⟨0,rfl,Nat.zero_le _,HV.out,But.refl _ _⟩
 case round=>
  obtain⟨j,rfl,hj,r,D⟩:=hrel;have ae:=D.size;have O:=hid r;have aa:=hid D;have I:=hid (Z.out.trans (D.below (by omega) Z.out.size));by_cases af:j<16
  ·have c2:wr.cell? ⟨q+1,j,none⟩=some (.int .u64 (wd (yL 8 16 zs j) j)):=(qq r _).trans (yr (yJ _ _ _ _) (by omega));have f2: ∀o,wr.frozen? ⟨q+1,o,none⟩=false:=(qO r).2;have e8:IntKind.i64.wrap (8*(j:Int))=((8*j:Nat):Int):=by rw[IntKind.wrap_i64];omega
   have U:=hid (qbC zs (.slice a 128 ab) (8*j) wr (qS H.out I.out) HZ.out (by have:=V.out;omega) (by have:=V.out;omega));have e9:((8*j:Nat):Int)=8*(j:Int):=by omega
   have Y:8*(j:Int)≤128:=by omega
   rw[e9]at U;clear r D e8 e9;go_wp2_with fail
   refine U.out.mono ?_;rintro e2 w2 ⟨rfl,rfl⟩;go_wp2
   exact⟨⟨j+1,rfl,by omega,by rw[yL,←Qe];exact block_setCell O.out _,aa.out.set _ _⟩,by simp[intOf];omega⟩
  ·obtain rfl:j=16:=by omega
   have G:=yi 8 16 HZ.out V.out;have J:=(D.block q (by omega) (by omega)).trans HR.out;rw[jK]at r;clear D O;go_wp2_with ((with_reducible show wpList _ _ _ (Oper.mk (some 23) _ _ _ _ _::_) _ _);refine wpList_load_row rfl 252 _ rfl (q+1) rfl _ _ _ _ r Tryz.underlying252 rfl (by rw[qf,G.1];kernel_rfl) ?_;refine wpList_store_row rfl 252 _ _ rfl q (qj .u64 (QZ 8 16 zs)) rfl rfl 252 _ J (by rw[qf,G.1];kernel_rfl) (by rw[qf,G.1];rfl) qy ?_)
   exact Bp (qA rfl _ _ _ _ _ _ _ rfl (setRow_heap _ _ _ _ _ _ J) Tryz.underlying252 rfl (by rw[qf,G.1];kernel_rfl)) rfl ⟨rfl,below_setRow (I.out.mono (by omega)) (by omega) _⟩
theorem qb1 (zs:List Int)(v:Value)(w:World)(h:Holds8 w v zs)(hz: ∀z∈zs,0≤z∧z≤255)(X:zs.length=128):
  Calls Tryz.prog 193 #[v] w fun e w'=>e= .returned (.tuple #[.agg (qj .u64 (QZ 8 16 zs)),.int .i64 0])∧Below w.heap.size w w':=by
 obtain⟨a,ab,rfl⟩:=h.slice;obtain⟨q,ac⟩:=Ex w.heap.size;have H:=hid h;have HZ:=hid hz;have V:=hid X;rw[X]at H⊢;clear h hz X;go_enter Tryz.func193,Tryz.ntmps193
 go_wp2_with fail
 refine qn ?_;intro W G;have hr:W.heap[q]? =some (.cells #[.int .u64 0,.int .u64 0,.int .u64 0,.int .u64 0,.int .u64 0,.int .u64 0,.int .u64 0,.int .u64 0,.int .u64 0,.int .u64 0,.int .u64 0,.int .u64 0,.int .u64 0,.int .u64 0,.int .u64 0,.int .u64 0] 252 (0,0)):=by
  rw[G];exact(Bh _ _ _ (by simp;omega)).trans (qe _ _ ac.symm)
 have r:W.heap[q+1]? =some (.cells (qj .u64 (yL 8 16 zs 0)) 252 (0,0)):=by
  rw[G];exact qe _ _ (by simp;omega)
 have D:Below w.heap.size w W:=by
  rw[G];exact((Below.refl w.heap.size w).alloc Nl _).alloc (by simp) _
 have ad:q+1<W.heap.size:=(Ai r).1;clear G;have HR:=hid hr;have HV:=hid r;have Z:=hid D;clear hr r D;go_loopw [5] (fun i wr=> ∃j:Nat,i= .int .i64 j∧j≤16∧wr.heap[q+1]? =some (.cells (qj .u64 (yL 8 16 zs j)) 252 (0,0))∧But (q+1) W wr) (fun i _=>16 - (intOf i).toNat)
 case atStart=>exact⟨0,rfl,Nat.zero_le _,HV.out,But.refl _ _⟩
 case round=>
  obtain⟨j,rfl,hj,r,D⟩:=hrel;have ae:=D.size;have O:=hid r;have aa:=hid D;have I:=hid (Z.out.trans (D.below (by omega) Z.out.size));by_cases af:j<16
  ·have c2:wr.cell? ⟨q+1,j,none⟩=some (.int .u64 (wd (yL 8 16 zs j) j)):=(qq r _).trans (yr (yJ _ _ _ _) (by omega));have f2: ∀o,wr.frozen? ⟨q+1,o,none⟩=false:=(qO r).2;have e8:IntKind.i64.wrap (8*(j:Int))=((8*j:Nat):Int):=by rw[IntKind.wrap_i64];omega
   have U:=hid (qbo zs (.slice a 128 ab) (8*j) wr (qS H.out I.out) HZ.out (by have:=V.out;omega) (by have:=V.out;omega));have e9:((8*j:Nat):Int)=8*(j:Int):=by omega
   have Y:8*(j:Int)≤128:=by omega
   rw[e9]at U;clear r D e8 e9;go_wp2_with fail
   refine U.out.mono ?_;rintro e2 w2 ⟨rfl,rfl⟩;go_wp2
   exact⟨⟨j+1,rfl,by omega,by rw[yL,←Qe];exact block_setCell O.out _,aa.out.set _ _⟩,by simp[intOf];omega⟩
  ·obtain rfl:j=16:=by omega
   have G:=yi 8 16 HZ.out V.out;have J:=(D.block q (by omega) (by omega)).trans HR.out;rw[jK]at r;clear D O;go_wp2_with ((with_reducible show wpList _ _ _ (Oper.mk (some 23) _ _ _ _ _::_) _ _);refine wpList_load_row rfl 252 _ rfl (q+1) rfl _ _ _ _ r Tryz.underlying252 rfl (by rw[qf,G.1];kernel_rfl) ?_;refine wpList_store_row rfl 252 _ _ rfl q (qj .u64 (QZ 8 16 zs)) rfl rfl 252 _ J (by rw[qf,G.1];kernel_rfl) (by rw[qf,G.1];rfl) qy ?_)
   exact Bp (qA rfl _ _ _ _ _ _ _ rfl (setRow_heap _ _ _ _ _ _ J) Tryz.underlying252 rfl (by rw[qf,G.1];kernel_rfl)) rfl ⟨rfl,below_setRow (I.out.mono (by omega)) (by omega) _⟩
def yP (L:List Int)(f:Nat→Int):Nat→List Int
 | 0=>L
 | j+1=>(yP L f j).set j (f j)
theorem yp (L:List Int)(f:Nat→Int): ∀j,(yP L f j).length=L.length
 | 0=>rfl
 | j+1=>by simp[yP,yp L f j]
theorem qei (L:List Int)(f:Nat→Int): ∀j i,i<j→i<L.length→(yP L f j)[i]? =some (f i)
 | j+1,i,h,hc=>by
  simp only[yP];by_cases e:i=j
  ·subst e;rw[List.getElem?_set_self (by rw[yp];exact hc)]
  ·rw[List.getElem?_set_ne (Ne.symm e)];exact qei L f j i (by omega) hc
theorem Ys (L:List Int)(f:Nat→Int): ∀j i,j≤i→wd (yP L f j) i=wd L i
 | 0,i,_=>rfl
 | j+1,i,h=>by
  have o:=Ys L f j i (by omega);simp only[yP];unfold wd at*;rw[Lg,List.getElem?_set_ne (by omega),←Lg];exact o
theorem jL (L:List Int)(f:Nat→Int):yP L f L.length=(List.range L.length).map f:=by
 apply List.ext_getElem?
 intro i;by_cases h:i<L.length
 ·rw[qei L f _ i h h];simp[h]
 ·rw[List.getElem?_eq_none (by rw[yp];omega),List.getElem?_eq_none (by simp;omega)]
def Yx (k:IntKind)(iv:List Int)(n:Nat)(zs:List Int)(i:Nat):Int:=bits .xor k (wd iv i) (Qi zs (n*i) n)
def yz (k:IntKind)(iv:List Int)(n:Nat)(zs:List Int):List Int:=(List.range 8).map (Yx k iv n zs)
theorem Yw {k:IntKind}{N:Nat}(q: ∀z,k.wrap z=z%2^N)(r:List Int)(n:Nat)(zs:List Int):Words N 8 (yz k r n zs):=by
 refine⟨by simp[yz],fun x o=>?_⟩;simp only[yz,List.mem_map,List.mem_range]at o;obtain⟨i,D,rfl⟩:=o;exact Qa _ _ _ q _ _
theorem qeN (zs:List Int)(v:Value)(w:World)(h:Holds8 w v zs)(hz: ∀z∈zs,0≤z∧z≤255)(hl:zs.length=64):
  Calls Tryz.prog 183 #[v] w fun e w'=>e= .returned (.tuple #[.agg (qj .u64 (yz .u64 IVb 8 zs)),.int .i64 0])∧Below w.heap.size w w':=by
 obtain⟨a,af,rfl⟩:=h.slice;obtain⟨J,ag⟩:=Ex w.heap.size;have H:=hid h;have HZ:=hid hz;have HL:=hid hl;rw[hl]at H⊢;clear h hz hl;go_enter Tryz.func183,Tryz.ntmps183
 go_wp2_with fail
 refine(qfT _).mono ?_;rintro e1 w1 ⟨rfl,I⟩;have V:=(I.block J (by simp;omega)).trans (qe _ _ ag.symm);have ac:J+1≤w1.heap.size:=by have:=I.size;simp at this;omega
 have Y:Below w.heap.size w w1:=((Below.refl w.heap.size w).alloc Nl _).trans (I.mono (by simp));clear I;go_wp2_with fail
 refine qn ?_;intro W G;obtain⟨D,O⟩:=Ex w1.heap.size;have hr:W.heap[J]? =some (.cells #[.int .u64 0,.int .u64 0,.int .u64 0,.int .u64 0,.int .u64 0,.int .u64 0,.int .u64 0,.int .u64 0] 274 (0,0)):=by
  rw[G];exact(Bh _ _ _ (by omega)).trans V
 have q:W.heap[D]? =some (.cells (qj .u64 (yP IVb (Yx .u64 IVb 8 zs) 0)) 274 (0,0)):=by
  rw[G];exact qe _ _ O.symm
 have r:Below w.heap.size w W:=by
  rw[G];exact Y.alloc (by omega) _
 rw[O];have aj:J+1≤D:=by omega
 clear G V ac Y O;have ah:D<W.heap.size:=(Ai q).1;have HR:=hid hr;have HV:=hid q;have HB:=hid r;clear hr q r;go_loopw [13] (fun i wr=> ∃j:Nat,i= .int .i64 j∧j≤8∧wr.heap[D]? =some (.cells (qj .u64 (yP IVb (Yx .u64 IVb 8 zs) j)) 274 (0,0))∧But D W wr) (fun i _=>8 - (intOf i).toNat)
 case atStart=>exact⟨0,rfl,Nat.zero_le _,HV.out,But.refl _ _⟩
 case round=>
  obtain⟨j,rfl,hj,q,r⟩:=hrel;have ak:=r.size;have aa:=hid q;have ae:=hid r;have X:=hid (HB.out.trans (r.below (by omega) HB.out.size));have ai:D<wr.heap.size:=(Ai q).1;by_cases al:j<8
  ·have c2:wr.cell? ⟨D,j,none⟩=some (.int .u64 (wd IVb j)):=by
    rw[qq q,yr (n:=8) (by rw[yp];rfl) (by omega),Ys _ _ _ _ Nl]
   have f2: ∀o,wr.frozen? ⟨D,o,none⟩=false:=(qO q).2;have e8:IntKind.i64.wrap (8*(j:Int))=((8*j:Nat):Int):=by rw[IntKind.wrap_i64];omega
   have ab:=hid (qbC zs (.slice a 64 af) (8*j) wr (qS H.out X.out) HZ.out (by have:=HL.out;omega) (by have:=HL.out;omega));have e9:((8*j:Nat):Int)=8*(j:Int):=by omega
   have ad:8*(j:Int)≤64:=by omega
   rw[e9]at ab;clear q r e8 e9;go_wp2_with fail
   refine ab.out.mono ?_;rintro e2 w2 ⟨rfl,rfl⟩;go_wp2
   exact⟨⟨j+1,rfl,by omega,by rw[yP,←Qe];exact block_setCell aa.out _,ae.out.set _ _⟩,by simp[intOf];omega⟩
  ·obtain rfl:j=8:=by omega
   have G:=Yw (k:= .u64) (N:=64) (fun z=>IntKind.wrap_u64 z) IVb 8 zs;have Z:=(r.block J (by omega) (by omega)).trans HR.out;have U:(yP IVb (Yx .u64 IVb 8 zs) 8)=yz .u64 IVb 8 zs:=jL _ _;rw[U]at q;clear r aa U;go_wp2_with ((with_reducible show wpList _ _ _ (Oper.mk (some 30) _ _ _ _ _::_) _ _);refine wpList_load_row rfl 274 _ rfl D rfl _ _ _ _ q Tryz.underlying274 rfl (by rw[qf,G.1];kernel_rfl) ?_;refine wpList_store_row rfl 274 _ _ rfl J (qj .u64 (yz .u64 IVb 8 zs)) rfl rfl 274 _ Z (by rw[qf,G.1];kernel_rfl) (by rw[qf,G.1];rfl) qy ?_)
   exact Bp (qA rfl _ _ _ _ _ _ _ rfl (setRow_heap _ _ _ _ _ _ Z) Tryz.underlying274 rfl (by rw[qf,G.1];kernel_rfl)) rfl ⟨rfl,below_setRow (X.out.mono (by omega)) (by omega) _⟩
theorem qeX (zs:List Int)(v:Value)(w:World)(h:Holds8 w v zs)(hz: ∀z∈zs,0≤z∧z≤255)(hl:zs.length=64):
  Calls Tryz.prog 205 #[v] w fun e w'=>e= .returned (.tuple #[.agg (qj .u64 (yz .u64 IVb 8 zs)),.int .i64 0])∧Below w.heap.size w w':=by
 obtain⟨a,af,rfl⟩:=h.slice;obtain⟨J,ag⟩:=Ex w.heap.size;have H:=hid h;have HZ:=hid hz;have HL:=hid hl;rw[hl]at H⊢;clear h hz hl;go_enter Tryz.func205,Tryz.ntmps205
 go_wp2_with fail
 refine qn ?_;intro W G;obtain⟨q,V⟩:=Ex (J+1);have hr:W.heap[J]? =some (.cells #[.int .u64 0,.int .u64 0,.int .u64 0,.int .u64 0,.int .u64 0,.int .u64 0,.int .u64 0,.int .u64 0] 274 (0,0)):=by
  rw[G];exact(Bh _ _ _ (by simp;omega)).trans (qe _ _ ag.symm)
 have r:W.heap[q]? =some (.cells (qj .u64 (yP [0,0,0,0,0,0,0,0] (Yx .u64 IVb 8 zs) 0)) 274 (0,0)):=by
  rw[G];exact qe _ _ (by simp;omega)
 have D:Below w.heap.size w W:=by
  rw[G];exact((Below.refl w.heap.size w).alloc Nl _).alloc (by simp) _
 rw[V];have ak:J+1≤q:=by omega
 clear G V;have aj:q<W.heap.size:=(Ai r).1;have HR:=hid hr;have HV:=hid r;have HB:=hid D;clear hr r D;go_loopw [5] (fun i wr=> ∃j:Nat,i= .int .i64 j∧j≤8∧wr.heap[q]? =some (.cells (qj .u64 (yP [0,0,0,0,0,0,0,0] (Yx .u64 IVb 8 zs) j)) 274 (0,0))∧But q W wr) (fun i _=>8 - (intOf i).toNat)
 case atStart=>exact⟨0,rfl,Nat.zero_le _,HV.out,But.refl _ _⟩
 case round=>
  obtain⟨j,rfl,hj,r,D⟩:=hrel;have al:=D.size;have Z:=hid r;have ad:=hid D;have X:=hid (HB.out.trans (D.below (by omega) HB.out.size));have ae:q<wr.heap.size:=(Ai r).1;by_cases ah:j<8
  ·have c2:wr.cell? ⟨q,j,none⟩=some (.int .u64 (wd [0,0,0,0,0,0,0,0] j)):=by
    rw[qq r,yr (n:=8) (by rw[yp];rfl) (by omega),Ys _ _ _ _ Nl]
   have f2: ∀o,wr.frozen? ⟨q,o,none⟩=false:=(qO r).2;have e8:IntKind.i64.wrap (8*(j:Int))=((8*j:Nat):Int):=by rw[IntKind.wrap_i64];omega
   have aa:=hid (qbo zs (.slice a 64 af) (8*j) wr (qS H.out X.out) HZ.out (by have:=HL.out;omega) (by have:=HL.out;omega));have e9:((8*j:Nat):Int)=8*(j:Int):=by omega
   have ab:8*(j:Int)≤64:=by omega
   rw[e9]at aa;clear r D e8 e9;go_wp2_with fail
   refine aa.out.mono ?_;rintro e2 w2 ⟨rfl,rfl⟩;go_wp2_with fail
   refine(qcs j ah _).mono ?_;rintro e3 w3 ⟨rfl,U⟩;have I:=(U.block q ae).trans Z.out;have ac:=hid I;have ai:=hid (ad.out.trans (But.of_below (b:=q) U));have c3:w3.cell? ⟨q,j,none⟩=some (.int .u64 (wd [0,0,0,0,0,0,0,0] j)):=by
    rw[qq I,yr (n:=8) (by rw[yp];rfl) (by omega),Ys _ _ _ _ Nl]
   have f3: ∀o,w3.frozen? ⟨q,o,none⟩=false:=(qO I).2;clear c2 f2 U I;go_wp2
   exact⟨⟨j+1,rfl,by omega,by rw[yP,←Qe];exact block_setCell ac.out _,ai.out.set _ _⟩,by simp[intOf];omega⟩
  ·obtain rfl:j=8:=by omega
   have G:=Yw (k:= .u64) (N:=64) (fun z=>IntKind.wrap_u64 z) IVb 8 zs;have Y:=(D.block J (by omega) (by omega)).trans HR.out;have O:(yP [0,0,0,0,0,0,0,0] (Yx .u64 IVb 8 zs) 8)=yz .u64 IVb 8 zs:=jL _ _;rw[O]at r;clear D Z O;go_wp2_with ((with_reducible show wpList _ _ _ (Oper.mk (some 29) _ _ _ _ _::_) _ _);refine wpList_load_row rfl 274 _ rfl q rfl _ _ _ _ r Tryz.underlying274 rfl (by rw[qf,G.1];kernel_rfl) ?_;refine wpList_store_row rfl 274 _ _ rfl J (qj .u64 (yz .u64 IVb 8 zs)) rfl rfl 274 _ Y (by rw[qf,G.1];kernel_rfl) (by rw[qf,G.1];rfl) qy ?_)
   exact Bp (qA rfl _ _ _ _ _ _ _ rfl (setRow_heap _ _ _ _ _ _ Y) Tryz.underlying274 rfl (by rw[qf,G.1];kernel_rfl)) rfl ⟨rfl,below_setRow (X.out.mono (by omega)) (by omega) _⟩
theorem qhA (zs:List Int)(v:Value)(at_:Nat)(w:World)(h:Holds8 w v zs)(q: ∀z∈zs,0≤z∧z≤255)(r:at_+4≤zs.length)(J:zs.length≤4294967296):
  Calls Tryz.prog 122 #[v,.int .i64 (at_:Nat),.int .i64 4] w fun e w'=>e= .returned (.tuple #[.int .u64 (Qi zs at_ 4),.int .i64 0])∧w'=w:=by
 obtain⟨a,G,rfl,h⟩:=h;obtain⟨b,off,rfl,V,o⟩:=h.resolve_left (fun e=>by rw[e]at r;simp at r);have D:=hid o;clear h o;go_enter Tryz.func122,Tryz.ntmps122
 go_wp2_with fail
 go_loopw [8,25] (fun s i wr=> ∃k:Nat,s= .int .u64 (Qi zs at_ k)∧i= .int .i64 k∧w=wr∧k≤4) (fun _ i _=>4 - (intOf i).toNat)
 case atStart=>exact⟨0,rfl,rfl,rfl,by omega⟩
 case round=>
  obtain⟨k,rfl,rfl,rfl,U⟩:=hrel;by_cases I:k<4
  ·have O:=D.out (at_+k) (by omega);have X:=orZ (Qi zs at_ k) (qr zs (at_+k)) k (by omega) (QL q k (by omega)) (qX q (by omega)).2;go_wp2
   exact⟨⟨k+1,rfl,rfl,by trivial,by omega⟩,by simp[intOf];omega⟩
  ·obtain rfl:k=4:=by omega
   go_wp2
   exact Bp (results_tmp2 (fn:=Tryz.f122) (t:=6) (u:=7) rfl _ _ _) rfl ⟨rfl,rfl⟩
theorem qfj (zs:List Int)(v:Value)(at_:Nat)(w:World)(h:Holds8 w v zs)(q: ∀z∈zs,0≤z∧z≤255)(r:at_+4≤zs.length)(G:zs.length≤4294967296):
  Calls Tryz.prog 216 #[v,.int .i64 (at_:Nat)] w fun e w'=>e= .returned (.tuple #[.int .u32 (Qi zs at_ 4),.int .i64 0])∧w'=w:=by
 have H:=hid (qhA zs v at_ w h q r G);have o:=QL q (at_:=at_) 4 r;simp only[Nat.reduceMul,Int.reducePow]at o;obtain⟨x,D⟩:=Ex (Qi zs at_ 4);rw[D]at H o⊢;obtain⟨J,I⟩:=o;clear D;go_enter Tryz.func216,Tryz.ntmps216
 go_wp2_with fail
 refine H.out.mono ?_;rintro e w1 ⟨rfl,rfl⟩;go_wp2
 exact Bp (results_tmp2 rfl _ _ _) rfl ⟨rfl,rfl⟩
theorem qdG (n:Nat)(a:Option Addr)(o:Nat)(w:World):Calls Tryz.prog 200 #[.slice a n o,.int .i64 n] w fun e w'=>e= .returned (.int .i64 0)∧w'=w:=by
 go_enter Tryz.func200,Tryz.ntmps200
 go_wp2
 go_ret
 exact⟨rfl,rfl⟩
theorem Jw (c:Nat)(hc:c≤16)(r:Nat)(T:TypeId)(zs:List Int)(v:Value)(w:World)(h:Holds8 w v zs)(V: ∀z∈zs,0≤z∧z≤255)(X:zs.length=4*c)(q:w.heap[r]? =some (.cells (qj .u32 (yL 4 c zs 0)) T (0,0)))
  (I: ∀w',But r w w'→Holds8 w' v zs):
  Calls Tryz.prog 201 #[.slice (some ⟨r,0,none⟩) c c,v] w fun e w'=>e= .returned (.tuple #[])∧w'.heap[r]? =some (.cells (qj .u32 (QZ 4 c zs)) T (0,0))∧But r w w':=by
 have HN:=hid I;have HZ:=hid V;have O:=hid X;have HV:=hid q;clear h V X q I;go_enter Tryz.func201,Tryz.ntmps201
 go_wp2_with fail
 go_loopw [7] (fun i wr=> ∃j:Nat,i= .int .i64 j∧j≤c∧wr.heap[r]? =some (.cells (qj .u32 (yL 4 c zs j)) T (0,0))∧But r w wr) (fun i _=>c - (intOf i).toNat)
 case atStart=>exact⟨0,rfl,Nat.zero_le _,HV.out,But.refl _ _⟩
 case round=>
  obtain⟨j,rfl,hj,q,D⟩:=hrel;have Y:=hid q;have G:=hid D;by_cases ab:j<c
  ·have c2:wr.cell? ⟨r,j,none⟩=some (.int .u32 (wd (yL 4 c zs j) j)):=(qq q _).trans (yr (yJ _ _ _ _) ab);have f2: ∀o,wr.frozen? ⟨r,o,none⟩=false:=(qO q).2;have Z:((4*j:Nat):Int)=4*(j:Int):=by omega
   have J:=hid (qfj zs v (4*j) wr (HN.out wr D) HZ.out (by have:=O.out;omega) (by have:=O.out;omega));have U:4*(j:Int)≤64:=by omega
   rw[Z]at J;clear q D Z;go_wp2_with fail
   refine J.out.mono ?_;rintro e2 w2 ⟨rfl,rfl⟩;go_wp2
   exact⟨⟨j+1,rfl,by omega,by rw[yL,←Qe];exact block_setCell Y.out _,G.out.set _ _⟩,by simp[intOf];omega⟩
  ·obtain rfl:j=c:=by omega
   rw[jK]at q;have aa:=hid q;clear q D;go_wp2
   exact bodyPost_end (results_none rfl _ _ _) rfl ⟨rfl,aa.out,G.out⟩
theorem val4 (zs:List Int)(i:Nat):Qi zs i 4=qr zs i+qr zs (i+1)*256+qr zs (i+2)*65536+qr zs (i+3)*16777216:=by
 simp only[Qi,Nat.reduceMul,Int.reducePow,Nat.add_zero];omega
theorem qau (zs:List Int)(v:Value)(at_:Nat)(w:World)(h:Holds8 w v zs)(q: ∀z∈zs,0≤z∧z≤255)(r:at_+4≤zs.length)(U:zs.length≤4294967296):
  Calls Tryz.prog 210 #[v,.int .i64 (at_:Nat)] w fun e w'=>e= .returned (.int .u32 (Qi zs at_ 4))∧ ∃m,w'=w.drewN m:=by
 obtain⟨a,J,rfl,h⟩:=h;obtain⟨b,off,rfl,h1,o⟩:=h.resolve_left (fun e=>by rw[e]at r;simp at r);have G:=o at_ (by omega);have I:=o (at_+1) (by omega);have O:=o (at_+2) (by omega);have D:=o (at_+3) (by omega);obtain⟨-,x0,x1⟩:=qX q (show at_<zs.length by omega);obtain⟨-,y0,V⟩:=qX q (show at_+1<zs.length by omega);obtain⟨-,z0,z1⟩:=qX q (show at_+2<zs.length by omega);obtain⟨-,t0,t1⟩:=qX q (show at_+3<zs.length by omega);rw[val4];generalize qr zs at_=x at*;generalize qr zs (at_+1)=y at*;generalize qr zs (at_+2)=z at*;generalize qr zs (at_+3)=t at*;have Y:IntKind.i64.wrap ((at_:Int)+1)=((at_+1:Nat):Int):=by rw[IntKind.wrap_i64];omega
 have Z:IntKind.i64.wrap ((at_:Int)+2)=((at_+2:Nat):Int):=by rw[IntKind.wrap_i64];omega
 have e3:IntKind.i64.wrap ((at_:Int)+3)=((at_+3:Nat):Int):=by rw[IntKind.wrap_i64];omega
 have l0:at_<zs.length:=by omega
 have X:at_+1<zs.length:=by omega
 have l2:at_+2<zs.length:=by omega
 have l3:at_+3<zs.length:=by omega
 clear h o q;go_enter Tryz.func210,Tryz.ntmps210
 go_wp2_with fail
 go_quiet (fail)
 go_wp2
 go_ret
 exact⟨rfl,nq,rfl⟩
theorem qeF (zs:List Int)(v:Value)(w:World)(h:Holds8 w v zs)(Y: ∀z∈zs,0≤z∧z≤255)(O:zs.length=64):
  Calls Tryz.prog 203 #[v] w fun e w'=>e= .returned (.tuple #[.agg (qj .u32 (QZ 4 16 zs)),.int .i64 0])∧Below w.heap.size w w':=by
 obtain⟨a,J,rfl⟩:=h.slice;obtain⟨q,ac⟩:=Ex w.heap.size;have H:=hid h;have X:=hid Y;have U:=hid O;rw[O]at H⊢;clear h Y O;go_enter Tryz.func203,Tryz.ntmps203
 go_wp2_with fail
 refine(qdG 64 a J _).mono ?_;rintro e1 w1 ⟨rfl,o⟩;have hr:w1.heap[q]? =some (.cells #[.int .u32 0,.int .u32 0,.int .u32 0,.int .u32 0,.int .u32 0,.int .u32 0,.int .u32 0,.int .u32 0,.int .u32 0,.int .u32 0,.int .u32 0,.int .u32 0,.int .u32 0,.int .u32 0,.int .u32 0,.int .u32 0] 298 (0,0)):=by
  rw[o];exact(Bh _ _ _ (by simp;omega)).trans (qe _ _ ac.symm)
 have hv:w1.heap[q+1]? =some (.cells (qj .u32 (yL 4 16 zs 0)) 298 (0,0)):=by
  rw[o];exact qe _ _ (by simp;omega)
 have V:Below w.heap.size w w1:=by
  rw[o];exact((Below.refl w.heap.size w).alloc Nl _).alloc (by simp) _
 clear o;have r:=hid V;have Z:=hid hr;have HV:=hid hv;clear hr hv V;go_wp2_with fail
 refine(Jw 16 (by decide) (q+1) 298 zs (.slice a 64 J) w1 (qS H.out r.out) X.out U.out HV.out (fun w' ab=>qS H.out (r.out.trans (ab.below (by omega) r.out.size)))).mono ?_;rintro e2 w2 ⟨rfl,aa,D⟩
 have G:=yi 4 16 X.out U.out;have I:=(D.block q (by have:=(Ai Z.out).1;omega) (by omega)).trans Z.out;have ad:=hid (r.out.trans (D.below (by omega) r.out.size));clear D;go_wp2_with ((with_reducible show wpList _ _ _ (Oper.mk (some 15) _ _ _ _ _::_) _ _);refine wpList_load_row rfl 298 _ rfl (q+1) rfl _ _ _ _ aa Tryz.underlying298 rfl (by rw[qf,G.1];kernel_rfl) ?_;refine wpList_store_row rfl 298 _ _ rfl q (qj .u32 (QZ 4 16 zs)) rfl rfl 298 _ I (by rw[qf,G.1];kernel_rfl) (by rw[qf,G.1];rfl) qy ?_)
 exact Bp (qA rfl _ _ _ _ _ _ _ rfl (setRow_heap _ _ _ _ _ _ I) Tryz.underlying298 rfl (by rw[qf,G.1];kernel_rfl)) rfl ⟨rfl,below_setRow (ad.out.mono (by omega)) (by omega) _⟩
theorem qb2 (zs:List Int)(v:Value)(w:World)(h:Holds8 w v zs)(hz: ∀z∈zs,0≤z∧z≤255)(X:zs.length=64):
  Calls Tryz.prog 195 #[v] w fun e w'=>e= .returned (.tuple #[.agg (qj .u32 (QZ 4 16 zs)),.int .i64 0])∧Below w.heap.size w w':=by
 obtain⟨a,ab,rfl⟩:=h.slice;obtain⟨q,ac⟩:=Ex w.heap.size;have H:=hid h;have HZ:=hid hz;have V:=hid X;rw[X]at H⊢;clear h hz X;go_enter Tryz.func195,Tryz.ntmps195
 go_wp2_with fail
 refine qn ?_;intro W G;have hr:W.heap[q]? =some (.cells #[.int .u32 0,.int .u32 0,.int .u32 0,.int .u32 0,.int .u32 0,.int .u32 0,.int .u32 0,.int .u32 0,.int .u32 0,.int .u32 0,.int .u32 0,.int .u32 0,.int .u32 0,.int .u32 0,.int .u32 0,.int .u32 0] 298 (0,0)):=by
  rw[G];exact(Bh _ _ _ (by simp;omega)).trans (qe _ _ ac.symm)
 have D:W.heap[q+1]? =some (.cells (qj .u32 (yL 4 16 zs 0)) 298 (0,0)):=by
  rw[G];exact qe _ _ (by simp;omega)
 have r:Below w.heap.size w W:=by
  rw[G];exact((Below.refl w.heap.size w).alloc Nl _).alloc (by simp) _
 have ad:q+1<W.heap.size:=(Ai D).1;clear G;have HR:=hid hr;have HV:=hid D;have Z:=hid r;clear hr D r;go_loopw [5] (fun i wr=> ∃j:Nat,i= .int .i64 j∧j≤16∧wr.heap[q+1]? =some (.cells (qj .u32 (yL 4 16 zs j)) 298 (0,0))∧But (q+1) W wr) (fun i _=>16 - (intOf i).toNat)
 case atStart=>exact⟨0,rfl,Nat.zero_le _,HV.out,But.refl _ _⟩
 case round=>
  obtain⟨j,rfl,hj,D,r⟩:=hrel;have ae:=r.size;have O:=hid D;have aa:=hid r;have I:=hid (Z.out.trans (r.below (by omega) Z.out.size));by_cases af:j<16
  ·have e9:((4*j:Nat):Int)=4*(j:Int):=by omega
   have U:=hid (qau zs (.slice a 64 ab) (4*j) wr (qS H.out I.out) HZ.out (by have:=V.out;omega) (by have:=V.out;omega));have Y:4*(j:Int)≤64:=by omega
   rw[e9]at U;clear r e9;go_wp2_with fail
   refine U.out.mono ?_;rintro e2 w2 ⟨rfl,m,rfl⟩;have c2:(wr.drewN m).cell? ⟨q+1,j,none⟩=some (.int .u32 (wd (yL 4 16 zs j) j)):=(qq (W:=wr.drewN m) D _).trans (yr (yJ _ _ _ _) (by omega));have f2: ∀o,(wr.drewN m).frozen? ⟨q+1,o,none⟩=false:=(qO (W:=wr.drewN m) D).2;go_wp2
   exact⟨⟨j+1,rfl,by omega,by rw[yL,←Qe];exact block_setCell (w:=wr.drewN m) O.out _,(aa.out.drewN m).set _ _⟩,by simp[intOf];omega⟩
  ·obtain rfl:j=16:=by omega
   have G:=yi 4 16 HZ.out V.out;have J:=(r.block q (by omega) (by omega)).trans HR.out;rw[jK]at D;clear r O;go_wp2_with ((with_reducible show wpList _ _ _ (Oper.mk (some 26) _ _ _ _ _::_) _ _);refine wpList_load_row rfl 298 _ rfl (q+1) rfl _ _ _ _ D Tryz.underlying298 rfl (by rw[qf,G.1];kernel_rfl) ?_;refine wpList_store_row rfl 298 _ _ rfl q (qj .u32 (QZ 4 16 zs)) rfl rfl 298 _ J (by rw[qf,G.1];kernel_rfl) (by rw[qf,G.1];rfl) qy ?_)
   exact Bp (qA rfl _ _ _ _ _ _ _ rfl (setRow_heap _ _ _ _ _ _ J) Tryz.underlying298 rfl (by rw[qf,G.1];kernel_rfl)) rfl ⟨rfl,below_setRow (I.out.mono (by omega)) (by omega) _⟩
theorem qf3 (n c:Nat)(zs:List Int){i:Nat}(o:i<c):wd (QZ n c zs) i=Qi zs (n*i) n:=by
 simp[wd,QZ,Lg,o]
theorem qeO (zs:List Int)(v:Value)(w:World)(h:Holds8 w v zs)(hz: ∀z∈zs,0≤z∧z≤255)(hl:zs.length=32):
  Calls Tryz.prog 186 #[v] w fun e w'=>e= .returned (.tuple #[.agg (qj .u32 (yz .u32 IVs 4 zs)),.int .i64 0])∧Below w.heap.size w w':=by
 obtain⟨a,al,rfl⟩:=h.slice;obtain⟨q,ar⟩:=Ex w.heap.size;have H:=hid h;have HZ:=hid hz;have HL:=hid hl;rw[hl]at H⊢;clear h hz hl;go_enter Tryz.func186,Tryz.ntmps186
 go_wp2_with fail
 refine(qdG 32 a al _).mono ?_;rintro e1 w1 ⟨rfl,U⟩;have am:w1.heap[q]? =some (.cells #[.int .u32 0,.int .u32 0,.int .u32 0,.int .u32 0,.int .u32 0,.int .u32 0,.int .u32 0,.int .u32 0] 284 (0,0)):=by
  rw[U];exact qe _ _ ar.symm
 have ah:Below w.heap.size w w1:=by
  rw[U];exact(Below.refl w.heap.size w).alloc Nl _
 have ae:w1.heap.size=q+1:=by rw[U];simp;omega
 clear U;go_wp2_with fail
 have an:(w1.alloc (.cells #[.int .u32 0,.int .u32 0,.int .u32 0,.int .u32 0,.int .u32 0,.int .u32 0,.int .u32 0,.int .u32 0] 284 (0,0))).heap[q+1]? =some (.cells (qj .u32 (yL 4 8 zs 0)) 284 (0,0)):=qe _ _ ae.symm;have r:=ah.alloc (by omega) (.cells #[.int .u32 0,.int .u32 0,.int .u32 0,.int .u32 0,.int .u32 0,.int .u32 0,.int .u32 0,.int .u32 0] 284 (0,0));refine(Jw 8 (by decide) (q+1) 284 zs (.slice a 32 al) _ (qS H.out r) HZ.out HL.out an (fun w' aa=>qS H.out (r.trans (aa.below (by omega) r.size)))).mono ?_;rintro e2 w2 ⟨rfl,Z,Y⟩
 have ai:=(Y.block q (by simp;omega) (by omega)).trans ((Bh _ _ _ (by omega)).trans am);have O:=r.trans (Y.below (by omega) r.size);have af:q+1<w2.heap.size:=(Ai Z).1;clear Y am ah an r ae;go_wp2_with fail
 refine(qfS _).mono ?_;rintro e3 w3 ⟨rfl,V⟩;have ac:=(V.block (q+1) af).trans Z;have ad:=(V.block q (by omega)).trans ai;have ag:=O.trans (V.mono O.size);have aq:q+1<w3.heap.size:=(Ai ac).1;clear V Z ai O af;go_wp2_with fail
 refine qn ?_;intro W I;obtain⟨J,X⟩:=Ex w3.heap.size;have hr:W.heap[q]? =some (.cells #[.int .u32 0,.int .u32 0,.int .u32 0,.int .u32 0,.int .u32 0,.int .u32 0,.int .u32 0,.int .u32 0] 284 (0,0)):=by rw[I];exact(Bh _ _ _ (by omega)).trans ad
 have hp:W.heap[q+1]? =some (.cells (qj .u32 (QZ 4 8 zs)) 284 (0,0)):=by rw[I];exact(Bh _ _ _ (by omega)).trans ac
 have D:W.heap[J]? =some (.cells (qj .u32 (yP IVs (Yx .u32 IVs 4 zs) 0)) 284 (0,0)):=by rw[I];exact qe _ _ X.symm
 have G:Below w.heap.size w W:=by rw[I];exact ag.alloc (by omega) _
 rw[X];have ax:q+1<J:=by omega
 have aw:J<W.heap.size:=(Ai D).1;clear I ad ac ag aq X;have HR:=hid hr;have HP:=hid hp;have HV:=hid D;have HB:=hid G;clear hr hp D G;go_loopw [18] (fun i wr=> ∃j:Nat,i= .int .i64 j∧j≤8∧wr.heap[J]? =some (.cells (qj .u32 (yP IVs (Yx .u32 IVs 4 zs) j)) 284 (0,0))∧But J W wr) (fun i _=>8 - (intOf i).toNat)
 case atStart=>exact⟨0,rfl,Nat.zero_le _,HV.out,But.refl _ _⟩
 case round=>
  obtain⟨j,rfl,hj,D,G⟩:=hrel;have ay:=G.size;have ak:=hid D;have ap:=hid G;have ao:=hid (HB.out.trans (G.below (by omega) HB.out.size));have av:J<wr.heap.size:=(Ai D).1;by_cases au:j<8
  ·have c2:wr.cell? ⟨J,j,none⟩=some (.int .u32 (wd IVs j)):=by
    rw[qq D,yr (n:=8) (by rw[yp];rfl) (by omega),Ys _ _ _ _ Nl]
   have c1:wr.cell? ⟨q+1,j,none⟩=some (.int .u32 (Qi zs (4*j) 4)):=by
    rw[qq ((G.block (q+1) (by omega) (by omega)).trans HP.out),yr (n:=8) (by simp[QZ]) (by omega),qf3 _ _ _ au]
   have f2: ∀o,wr.frozen? ⟨J,o,none⟩=false:=(qO D).2;have q1:q+1<wr.heap.size:=by omega
   clear D G;go_wp2_with fail
   refine qk (by dsimp only[List.dropLast]) (by rfl) (by rfl) (by kernel_rfl) (by kernel_rfl) (by kernel_rfl) (by kernel_rfl) ?_;repeat(go_big_quiet_step (fail))
   refine wpQuiet_nil ?_;intro _ aa;obtain⟨n1,rfl⟩:=aa;go_wp2
   exact⟨⟨j+1,rfl,by omega,by rw[yP,←Qe];exact block_setCell (w:=wr.drewN n1) ak.out _,(ap.out.drewN n1).set _ _⟩,by simp[intOf];omega⟩
  ·obtain rfl:j=8:=by omega
   have I:=Yw (k:= .u32) (N:=32) (fun z=>IntKind.wrap_u32 z) IVs 4 zs;have aj:=(G.block q (by omega) (by omega)).trans HR.out;have ab:(yP IVs (Yx .u32 IVs 4 zs) 8)=yz .u32 IVs 4 zs:=jL _ _;rw[ab]at D;clear G ak ab;go_wp2_with ((with_reducible show wpList _ _ _ (Oper.mk (some 30) _ _ _ _ _::_) _ _);refine wpList_load_row rfl 284 _ rfl (J) rfl _ _ _ _ D Tryz.underlying284 rfl (by rw[qf,I.1];kernel_rfl) ?_;refine wpList_store_row rfl 284 _ _ rfl q (qj .u32 (yz .u32 IVs 4 zs)) rfl rfl 284 _ aj (by rw[qf,I.1];kernel_rfl) (by rw[qf,I.1];rfl) qy ?_)
   exact Bp (qA rfl _ _ _ _ _ _ _ rfl (setRow_heap _ _ _ _ _ _ aj) Tryz.underlying284 rfl (by rw[qf,I.1];kernel_rfl)) rfl ⟨rfl,below_setRow (ao.out.mono (by omega)) (by omega) _⟩
theorem qeY (zs:List Int)(v:Value)(w:World)(h:Holds8 w v zs)(hz: ∀z∈zs,0≤z∧z≤255)(hl:zs.length=32):
  Calls Tryz.prog 206 #[v] w fun e w'=>e= .returned (.tuple #[.agg (qj .u32 (yz .u32 IVs 4 zs)),.int .i64 0])∧Below w.heap.size w w':=by
 obtain⟨a,ac,rfl⟩:=h.slice;obtain⟨q,af⟩:=Ex w.heap.size;have H:=hid h;have HZ:=hid hz;have HL:=hid hl;rw[hl]at H⊢;clear h hz hl;go_enter Tryz.func206,Tryz.ntmps206
 go_wp2_with fail
 refine(qbq _).mono ?_;rintro e3 w3 ⟨rfl,I⟩;have U:=(I.block q (by simp;omega)).trans ((Bh _ _ _ (by simp;omega)).trans (qe _ _ af.symm));have J:=(I.block (q+1) (by simp;omega)).trans (qe _ _ (by simp;omega));have X:Below w.heap.size w w3:=(((Below.refl w.heap.size w).alloc Nl _).alloc (by simp) _).trans (I.mono (by simp;omega));have ad:q+1<w3.heap.size:=by have:=I.size;simp at this;omega
 clear I;go_wp2_with ((with_reducible show wpList _ _ _ (Oper.mk none (Op.store 284 _ _) _ _ _ _::_) _ _);refine wpList_store_row rfl 284 _ _ rfl (q+1) #[.int .u32 1779033703,.int .u32 3144134277,.int .u32 1013904242,.int .u32 2773480762,.int .u32 1359893119,.int .u32 2600822924,.int .u32 528734635,.int .u32 1541459225] rfl rfl 284 _ J (by kernel_rfl) (by kernel_rfl) (by kernel_rfl) ?_)
 refine qn ?_;intro W G;have hr:W.heap[q]? =some (.cells #[.int .u32 0,.int .u32 0,.int .u32 0,.int .u32 0,.int .u32 0,.int .u32 0,.int .u32 0,.int .u32 0] 284 (0,0)):=by rw[G];exact(setRow_other _ _ _ _ (by omega)).trans U
 have r:W.heap[q+1]? =some (.cells (qj .u32 (yP IVs (Yx .u32 IVs 4 zs) 0)) 284 (0,0)):=by rw[G];exact setRow_heap _ _ _ _ _ _ J
 have D:Below w.heap.size w W:=by rw[G];exact below_setRow X (by omega) _
 have ah:q+1<W.heap.size:=(Ai r).1;clear G U J X ad;have HR:=hid hr;have HV:=hid r;have HB:=hid D;clear hr r D;go_loopw [5] (fun i wr=> ∃j:Nat,i= .int .i64 j∧j≤8∧wr.heap[q+1]? =some (.cells (qj .u32 (yP IVs (Yx .u32 IVs 4 zs) j)) 284 (0,0))∧But (q+1) W wr) (fun i _=>8 - (intOf i).toNat)
 case atStart=>exact⟨0,rfl,Nat.zero_le _,HV.out,But.refl _ _⟩
 case round=>
  obtain⟨j,rfl,hj,r,D⟩:=hrel;have ai:=D.size;have Z:=hid r;have aa:=hid D;have V:=hid (HB.out.trans (D.below (by omega) HB.out.size));by_cases aj:j<8
  ·have c2:wr.cell? ⟨q+1,j,none⟩=some (.int .u32 (wd IVs j)):=by
    rw[qq r,yr (n:=8) (by rw[yp];rfl) (by omega),Ys _ _ _ _ Nl]
   have f2: ∀o,wr.frozen? ⟨q+1,o,none⟩=false:=(qO r).2;have e9:((4*j:Nat):Int)=4*(j:Int):=by omega
   have ag:=hid (fun n=>qau zs (.slice a 32 ac) (4*j) (wr.drewN n) (qS H.out (V.out.trans (QR n))) HZ.out (by have:=HL.out;omega) (by have:=HL.out;omega));have e8:IntKind.i64.wrap (4*(j:Int))=((4*j:Nat):Int):=by rw[IntKind.wrap_i64];omega
   have hS:=hid (show Yx .u32 IVs 4 zs j=bits .xor .u32 (wd IVs j) (Qi zs (4*j) 4) from rfl);generalize ab:4*j=k4 at*;clear r D ab e9;go_wp2_with fail
   refine qk (by dsimp only[List.dropLast]) (by rfl) (by rfl) (by kernel_rfl) (by kernel_rfl) (by kernel_rfl) (by kernel_rfl) ?_;repeat(go_big_quiet_step (exact Calls.quiet_of (ag.out _)))
   refine wpQuiet_nil ?_;intro _ ae;obtain⟨n1,rfl⟩:=ae;go_wp2
   exact⟨⟨j+1,rfl,by omega,by rw[yP,←Qe,hS.out];exact block_setCell (w:=wr.drewN n1) Z.out _,(aa.out.drewN n1).set _ _⟩,by simp[intOf];omega⟩
  ·obtain rfl:j=8:=by omega
   have G:=Yw (k:= .u32) (N:=32) (fun z=>IntKind.wrap_u32 z) IVs 4 zs;have Y:=(D.block q (by omega) (by omega)).trans HR.out;have O:(yP IVs (Yx .u32 IVs 4 zs) 8)=yz .u32 IVs 4 zs:=jL _ _;rw[O]at r;clear D Z O;go_wp2_with ((with_reducible show wpList _ _ _ (Oper.mk (some 31) _ _ _ _ _::_) _ _);refine wpList_load_row rfl 284 _ rfl (q+1) rfl _ _ _ _ r Tryz.underlying284 rfl (by rw[qf,G.1];kernel_rfl) ?_;refine wpList_store_row rfl 284 _ _ rfl q (qj .u32 (yz .u32 IVs 4 zs)) rfl rfl 284 _ Y (by rw[qf,G.1];kernel_rfl) (by rw[qf,G.1];rfl) qy ?_)
   exact Bp (qA rfl _ _ _ _ _ _ _ rfl (setRow_heap _ _ _ _ _ _ Y) Tryz.underlying284 rfl (by rw[qf,G.1];kernel_rfl)) rfl ⟨rfl,below_setRow (V.out.mono (by omega)) (by omega) _⟩
end Go.Proofs.YthjoojnlnlmljaaGreat
namespace Go.Proofs.YthjoojnlnlmljaaGreat
open Go.ChangeShapes Go.WideShapes Go.ChangeAt Go.RowKit Go.Joins Go.Shelf Go.Maps
open Go.Lib (hid)
attribute [local go_sem] Oper.semAt_some YT
def qN (n:Nat)(h:List Int):Nat→List Int
 | 0=>[]
 | i+1=>qN n h i++qZ (wd h i).toNat n
theorem Jb (n:Nat)(h:List Int): ∀i,(qN n h i).length=n*i
 | 0=>rfl
 | i+1=>by rw[qN,List.length_append,Jb n h i,qY,Nat.mul_succ]
theorem yy {N n:Nat}{L:List Int}(h:Words N n L){i:Nat}(o:i<n):0≤wd L i∧wd L i<2^N:=by
 have e:wd L i=L[i]'(by rw[h.1];exact o):=by unfold wd;simp[Lg,h.1,o]
 rw[e];exact h.2 _ (List.getElem_mem _)
theorem qfE (x k:Nat):0≤byt x k∧byt x k≤255:=by unfold byt;omega
theorem Jd (x k:Nat): ∀z∈qZ x k,0≤z∧z≤255:=by
 intro z o;simp only[qZ,List.mem_map]at o;obtain⟨j, -,rfl⟩:=o;exact qfE x j
theorem Jc (n:Nat)(h:List Int): ∀i,∀z∈qN n h i,0≤z∧z≤255
 | 0,z,o=>by simp[qN]at o
 | i+1,z,o=>by
  rw[qN,List.mem_append]at o;rcases o with o|o
  ·exact Jc n h i z o
  ·exact Jd _ _ z o
theorem qi {W W':World}{base:Nat}{e:TypeId}{size:Nat}{v:Value}{n:Nat}{xs:List Value}(h:W.ownsRow base e size v n xs)(J: ∀g,base≤g→g<W.heap.size→W'.heap[g]? =W.heap[g]?):W'.ownsRow base e size v n xs:=by
 refine⟨h.1,?_⟩;rcases h.2 with o|⟨g,D,q,I,o,r,G⟩
 ·exact .inl o
 ·exact .inr ⟨g,D,q,I,o,(J g o (Ai r).1).trans r,G⟩
theorem qfO {W:World}{base n:Nat}{v:Value}{zs:List Int}(h:W.ownsRow base 5 1 v n (zs.map qt))(D:0<n):
  ∃g o,v= .slice (some ⟨g,0,none⟩) n o∧g<W.heap.size∧ ∀j u,(zs.map qt)[j]? =some u→W.cell? (Addr.add ⟨g,0,none⟩ j)=some u:=by
 rcases h.2 with⟨rfl,r⟩|⟨g,o,q,rfl,G⟩
 ·omega
 ·exact⟨g,o,rfl,(h.lt g rfl).2,h.cells (g:=g) rfl⟩
theorem qej {zs:List Int}: ∀u∈zs.map qt,u.oneCell'=true:=by
 intro u o;obtain⟨z, -,rfl⟩:=List.mem_map.1 o;rfl
theorem Q7 {W:World}{base:Nat}{v:Value}{n:Nat}{zs:List Int}(h:W.ownsRow base 5 1 v n (zs.map qt)):Holds8 W v zs:=by
 have G:n=zs.length:=by have:=h.1;simpa using this.symm
 subst G;by_cases q:zs.length=0
 ·have:zs=[]:=List.length_eq_zero_iff.1 q
  subst this;rcases h.2 with⟨rfl, -⟩|⟨g,o,J,rfl, -⟩
  ·exact⟨none,0,rfl,.inl rfl⟩
  ·exact⟨_,o,rfl,.inl rfl⟩
 ·obtain⟨g,o,rfl,I,r⟩:=qfO h (Nat.pos_of_ne_zero q);refine⟨_,o,rfl,.inr ⟨g,0,rfl,I,fun i D=>?_⟩⟩;have:=r i (.int .u8 (qr zs i)) (by simp[qt,qr,Lg,D])
  rw[show(⟨g,0+i,none⟩:Addr)=Addr.add ⟨g,0,none⟩ i by by_cases h:i=0<;>simp[Addr.add,h]];exact this
theorem qfC (h:List Int)(hh:Words 64 8 h)(w:World):
  Calls Tryz.prog 185 #[.agg (qj .u64 h)] w fun e w'=> ∃v,e= .returned v∧w'.ownsRow w.heap.size 5 1 v 64 ((qN 8 h 8).map qt)∧Below w.heap.size w w':=by
 obtain⟨i0,hi,ad,af,ab⟩:=info_parts Qr;obtain⟨q,ag⟩:=Ex w.heap.size;go_enter Tryz.func185,Tryz.ntmps185
 obtain⟨D,U⟩:=Ex (w.alloc (.cells (qj .u64 h) 274));have aj:D.heap.size=w.heap.size+1:=by rw[←U];simp
 have V:Below w.heap.size w D:=by rw[←U];exact(Below.refl w.heap.size w).alloc Nl _
 have ac:D.heap[q]? =some (.cells (qj .u64 h) 274 (0,0)):=by rw[←U];exact qe _ _ ag.symm
 obtain⟨w1,hr,r,o⟩:=run_make_own (P:=Tryz.prog) D w.heap.size 24 5 i0 (.int .u8 0) 1 Tryz.underlying24 hi ad af .i64 .i64 64 (by rw[ab];omega) (by unfold maxLen;omega) (by omega);have al:(Instr.makeSlice 24 (.int .i64 0) (.int .i64 64)).run Tryz.prog D= .ok (.slice (some ⟨D.heap.size,0,none⟩) 0 64) w1:=hr;have ai:w1.heap[q]? =some (.cells (qj .u64 h) 274 (0,0)):=(o.block q (by omega) (by simp)).trans ac;have ah:Below w.heap.size w w1:=V.grown o (by omega) (fun k e=>by cases e);obtain⟨bg,ae⟩:=Ex D.heap.size;have ap:q<bg:=by omega
 rw[ae]at al r;have HR:=hid ai;have HB:=hid ah;have HO:=hid r;have HH:=hid hh;clear hr o V ac ah r aj ae;rw[ag]at HO HB⊢;go_wp2_with ((with_reducible show wpList _ _ _ (Oper.mk _ (Op.load _ _) _ _ _ _::_) _ _);refine wpList_load_row rfl 274 _ rfl q rfl _ _ _ _ HR.out Tryz.underlying274 rfl (by rw[qf,HH.out.1];kernel_rfl) ?_)
 go_loopw [3,8] (fun s i wr=> ∃(k:Nat) (v:Value),s=v∧i= .int .i64 k∧k≤8∧wr.ownsRow q 5 1 v (8*k) ((qN 8 h k).map qt)∧Below q w wr) (fun _ i _=>8 - (intOf i).toNat)
 case atStart=>exact⟨0,_,rfl,rfl,Nat.zero_le _,HO.out,HB.out⟩
 case round=>
  obtain⟨k,v,rfl,rfl,hk,G,hb⟩:=hrel;have ar:=hb.size;by_cases Y:k<8
  ·have ha:=qC (k:= .u64) HH.out Y;obtain⟨x,hx⟩: ∃x:Nat,(x:Int)=wd h k:=⟨(wd h k).toNat,by have:=(yy HH.out Y);omega⟩;rw[←hx]at ha;have ao:(x:Int)≤18446744073709551615:=by have:=(yy HH.out Y);omega
   have X:(wd h k).toNat=x:=by omega
   have e1:(qN 8 h (k+1)).map qt=(qN 8 h k).map qt++(qZ x 8).map qt:=by rw[qN,List.map_append,X]
   have E1:=hid e1;have OW:=hid G;have BW:=hid hb;clear e1 G hb hx X;go_wp2_with fail
   refine(qeK x ao _).mono ?_;rintro e2 w2 ⟨v2,rfl,Z,O⟩
   have I:=qi OW.out (W':=w2) (fun g _ hg=>O.block g hg);have ak:Below q w w2:=BW.out.trans (O.mono (by omega));have aq:=O.size;obtain⟨g2,c2,rfl,au,an⟩:=qfO Z (by decide);clear O;go_wp2_with (at_builtin;refine wpList_append_own _ rfl _ _ 24 rfl q 5 i0 (.int .u8 0) 1 1 Tryz.underlying24 hi ad af ab rfl (by decide) _ _ _ rfl I ⟨g2,0,none⟩ 8 c2 ((qZ x 8).map qt) rfl (by rw[List.length_map,qY]) an qej (by unfold maxLen;omega) (by omega) (by omega) ?_;intro v' w3 J aa _;have am:Below q w w3:=ak.grown aa (by omega) (fun k e=>(I.lt k e).1))
   rw[←E1.out,←Nat.mul_succ]at J;exact⟨⟨k+1,v',rfl,rfl,by omega,J,am⟩,by simp[intOf];omega⟩
  ·obtain rfl:k=8:=by omega
   go_wp2
   go_ret
   exact⟨_,rfl,G,hb⟩
attribute [local go_sem] Oper.semAt_some YT
theorem qfz (W:World)(a0 a1 a2 o:Value)(T:TypeId): ∀j u,[a0,a1,a2,o][j]? =some u→(W.alloc (.cells #[a0,a1,a2,o] T)).cell? (Addr.add ⟨W.heap.size,0,none⟩ j)=some u:=by
 intro j u q;have h:=qd (Wn W (.cells #[a0,a1,a2,o] T)) j;rw[show Addr.add ⟨W.heap.size,0,none⟩ j=⟨W.heap.size,j,none⟩ by first|(simp[Addr.add];done)|(simp[Addr.add];omega),h];simpa using q
theorem qfD (h:List Int)(hh:Words 32 8 h)(w:World):
  Calls Tryz.prog 188 #[.agg (qj .u32 h)] w fun e w'=> ∃v,e= .returned v∧w'.ownsRow w.heap.size 5 1 v 32 ((qN 4 h 8).map qt)∧Below w.heap.size w w':=by
 obtain⟨i0,hi,ab,ad,Z⟩:=info_parts Qr;obtain⟨r,ae⟩:=Ex w.heap.size;go_enter Tryz.func188,Tryz.ntmps188
 obtain⟨D,J⟩:=Ex (w.alloc (.cells (qj .u32 h) 284));have ah:D.heap.size=w.heap.size+1:=by rw[←J];simp
 have O:Below w.heap.size w D:=by rw[←J];exact(Below.refl w.heap.size w).alloc Nl _
 have aa:D.heap[r]? =some (.cells (qj .u32 h) 284 (0,0)):=by rw[←J];exact qe _ _ ae.symm
 obtain⟨w1,hr,q,o⟩:=run_make_own (P:=Tryz.prog) D w.heap.size 24 5 i0 (.int .u8 0) 1 Tryz.underlying24 hi ab ad .i64 .i64 32 (by rw[Z];omega) (by unfold maxLen;omega) (by omega);have ai:(Instr.makeSlice 24 (.int .i64 0) (.int .i64 32)).run Tryz.prog D= .ok (.slice (some ⟨D.heap.size,0,none⟩) 0 32) w1:=hr;have ag:w1.heap[r]? =some (.cells (qj .u32 h) 284 (0,0)):=(o.block r (by omega) (by simp)).trans aa;have af:Below w.heap.size w w1:=O.grown o (by omega) (fun k e=>by cases e);obtain⟨bg,ac⟩:=Ex D.heap.size;have ak:r<bg:=by omega
 rw[ac]at ai q;have HR:=hid ag;have HB:=hid af;have HO:=hid q;have Y:=hid hh;clear hr o O aa af q ah ac;rw[ae]at HO HB⊢;go_wp2_with ((with_reducible show wpList _ _ _ (Oper.mk _ (Op.load _ _) _ _ _ _::_) _ _);refine wpList_load_row rfl 284 _ rfl r rfl _ _ _ _ HR.out Tryz.underlying284 rfl (by rw[qf,Y.out.1];kernel_rfl) ?_)
 go_loopw [3,8] (fun s i wr=> ∃(k:Nat) (v:Value),s=v∧i= .int .i64 k∧k≤8∧wr.ownsRow r 5 1 v (4*k) ((qN 4 h k).map qt)∧Below r w wr) (fun _ i _=>8 - (intOf i).toNat)
 case atStart=>exact⟨0,_,rfl,rfl,Nat.zero_le _,HO.out,HB.out⟩
 case round=>
  obtain⟨k,v,rfl,rfl,hk,G,hb⟩:=hrel;have al:=hb.size;by_cases V:k<8
  ·have ha:=qC (k:= .u32) Y.out V;obtain⟨x,hx⟩: ∃x:Nat,(x:Int)=wd h k:=⟨(wd h k).toNat,by have:=(yy Y.out V);omega⟩;rw[←hx]at ha;have am:(x:Int)≤4294967295:=by have:=(yy Y.out V);omega
   have U:(wd h k).toNat=x:=by omega
   have q0:(x:Int)%256=byt x 0:=by have:=zW x 0;simpa using this
   have q1:(x:Int)/256%256=byt x 1:=zW x 1;have q2:(x:Int)/65536%256=byt x 2:=zW x 2;have q3:(x:Int)/16777216=byt x 3:=by
    have h3:(x:Int)/16777216%256=byt x 3:=zW x 3;rw[←h3];omega
   have e1:(qN 4 h (k+1)).map qt=(qN 4 h k).map qt++[.int .u8 (byt x 0),.int .u8 (byt x 1),.int .u8 (byt x 2),.int .u8 (byt x 3)]:=by rw[qN,List.map_append,U];rfl
   have E1:=hid e1;clear e1 hx U;go_wp2_with (at_builtin;refine wpList_append_own _ rfl _ _ 24 rfl r 5 i0 (.int .u8 0) 1 1 Tryz.underlying24 hi ab ad Z rfl (by decide) _ _ _ rfl (G.alloc _) ⟨wr.heap.size,0,none⟩ 4 4 [.int .u8 (byt x 0),.int .u8 (byt x 1),.int .u8 (byt x 2),.int .u8 (byt x 3)] rfl rfl (qfz _ _ _ _ _ _) (by simp[Value.oneCell']) (by unfold maxLen;omega) (by omega) (by simp;omega) ?_;intro v' w2 I X _;have aj:Below r w w2:=(hb.alloc (by omega) _).grown X (by simp;omega) (fun k e=>(G.lt k e).1))
   rw[←E1.out,←Nat.mul_succ]at I;exact⟨⟨k+1,v',rfl,rfl,by omega,I,aj⟩,by simp[intOf];omega⟩
  ·obtain rfl:k=8:=by omega
   go_wp2
   go_ret
   exact⟨_,rfl,G,hb⟩
end Go.Proofs.YthjoojnlnlmljaaGreat
namespace Go.Proofs.YthjoojnlnlmljaaGreat
open Go.ChangeShapes Go.WideShapes Go.ChangeAt Go.RowKit Go.Joins Go.Shelf Go.Maps
open Go.Lib (hid)
attribute [local go_sem] Oper.semAt_some
def SrcIs (w:World)(x:Value)(m:Nat)(news:List Value):Prop:=
 news.length=m∧(∀u∈news,u.oneCell'=true)∧((x= .slice none 0 0∧m=0)∨ ∃ad c,x= .slice (some ad) m c∧ ∀j u,news[j]? =some u→w.cell? (ad.add j)=some u)
theorem SrcIs.below {w w':World}{x:Value}{m:Nat}{o:List Value}(h:SrcIs w x m o)(r:Below w.heap.size w w'):SrcIs w' x m o:=by
 refine⟨h.1,h.2.1,?_⟩;rcases h.2.2 with q|⟨D,c,e,q⟩
 ·exact .inl q
 ·refine .inr ⟨D,c,e,fun j u G=>?_⟩;have:=q j u G
  rw[r.cell (World.block_lt_of_cell? w _ this)];exact this
theorem qbi {P:Program}{w W:World}{B:Nat}(hB:B=W.heap.size)(I:Below B W w)(t O e:TypeId)(i:TypeInfo)(z:Value)(bytes:Nat)(ht:P.underlying t=some (.slice e))(X:P.info? e=some i)(hz:i.zero=some z)
  (G:i.size=1) (Y:i.bytes=bytes) (aa:z.cells.size=1) (v:Value) (n:Nat) (xs:List Value) (o:w.ownsRow B e 1 v n xs)
  (x:Value) (m:Nat) (q:List Value) (U:SrcIs w x m q) (Z:n+m≤maxLen) (r:(n+m)*bytes≤140737488355328):
  ∃v' w',(Builtin.append_ #[t,t] O #[v,x]).run P w= .ok v' w'∧w'.ownsRow B e 1 v' (n+m) (xs++q)∧Below B W w':=by
 subst hB;obtain⟨h1,h2,V⟩:=U;rcases V with⟨rfl,rfl⟩|⟨ad,c,rfl,V⟩
 ·obtain rfl:q=[]:=List.eq_nil_of_length_eq_zero h1;exact⟨v,w,run_append_owned_none w W.heap.size t O e i 1 ht X v n xs o,by simpa using o,I⟩
 ·obtain⟨v',w',hr,J,D, -⟩:=run_append_own (P:=P) w W.heap.size t O e i z 1 bytes ht X hz G Y aa (by omega) v n xs o ad m c q (by omega) V h2 Z r I.size;exact⟨v',w',hr,J,I.grown D I.size (fun k e=>(o.lt k e).1)⟩
theorem qaM {P:Program}{w:World}{ops:Array Oper}{o:Oper}{a:Act}{K:Act→World→Prop}{Q:Exit→Act→World→Prop}{E:Prop}(J:o.guard=none)(s x:Operand)(t:TypeId)
  (ho:o.op= .call { callee:= .builtin .append,args:= #[s,x],argTypes:= #[t,t] }) (W:World) (B:Nat) (Z:B=W.heap.size) (X:Below B W w)
  (e:TypeId) (i:TypeInfo) (z:Value) (bytes:Nat) (ht:P.underlying t=some (.slice e)) (Y:P.info? e=some i) (hz:i.zero=some z)
  (D:i.size=1) (O:i.bytes=bytes) (V:z.cells.size=1) (v:Value) (n:Nat) (xs:List Value) (hs:a.eval s=v) (I:w.ownsRow B e 1 v n xs)
  (u:Value) (m:Nat) (q:List Value) (hx:a.eval x=u) (G:SrcIs w u m q) (U:n+m≤maxLen) (r:(n+m)*bytes≤140737488355328)
  (h: ∀v' w',w'.ownsRow B e 1 v' (n+m) (xs++q)→Below B W w'→K (a.put o.dst v') w'):
  if Region.wanted o (yielded ops a.tmps)=true then Oper.wp P o a w K Q else E:=by
 have hw:Region.wanted o (yielded ops a.tmps)=true:=by simp[Region.wanted,J]
 rw[if_pos hw];obtain⟨v',w',hr,h2,h3⟩:=qbi (P:=P) Z X t o.type e i z bytes ht Y hz D O V v n xs I u m q G U r;unfold Oper.wp execOp;simp only[ho,resolve,invoke,builtin,Sem.run_bind,Sem.run_pure,Result.andThen_ok,List.map_toArray,List.map_cons,List.map_nil,hs,hx,hr];exact h v' w' h2 h3
theorem qeP {w:World}{B n:Nat}{e:TypeId}{v:Value}{xs:List Value}(h:w.ownsRow B e 1 v n xs)(q: ∀u∈xs,u.oneCell'=true):SrcIs w v n xs:=by
 refine⟨by have:=h.1;omega,q,?_⟩;rcases h.2 with⟨rfl,rfl⟩|⟨g,o,r,rfl, -⟩
 ·exact .inl ⟨rfl,rfl⟩
 ·exact .inr ⟨⟨g,0,none⟩,o,rfl,h.cells (g:=g) rfl⟩
theorem qT {P:Program}{w:World}{ops:Array Oper}{o:Oper}{l:List Oper}{a:Act}{Q:Exit→Act→World→Prop}(G:o.guard=none)(s x:Operand)(t:TypeId)
  (ho:o.op= .call { callee:= .builtin .append,args:= #[s,x],argTypes:= #[t,t] }) (W:World) (B:Nat) (hB:B=W.heap.size) (Y:Below B W w)
  (e:TypeId) (i:TypeInfo) (z:Value) (bytes:Nat) (ht:P.underlying t=some (.slice e)) (Z:P.info? e=some i) (hz:i.zero=some z)
  (D:i.size=1) (O:i.bytes=bytes) (V:z.cells.size=1) (v:Value) (n:Nat) (xs:List Value) (hs:a.eval s=v) (J:w.ownsRow B e 1 v n xs)
  (u:Value) (m:Nat) (q:List Value) (hx:a.eval x=u) (I:SrcIs w u m q) (U:n+m≤maxLen) (r:(n+m)*bytes≤140737488355328)
  (h: ∀v' w',w'.ownsRow B e 1 v' (n+m) (xs++q)→Below B W w'→wpList P ops Q l (a.put o.dst v') w'):wpList P ops Q (o::l) a w:=by
 have X:Region.wanted o (yielded ops a.tmps)=true:=by simp[Region.wanted,G]
 unfold wpList;rw[if_pos X];refine .inl ?_;have H:=qaM (ops:=ops) (K:=wpList P ops Q l) (Q:=Q) (E:=True) G s x t ho W B hB Y e i z bytes ht Z hz D O V v n xs hs J u m q hx I U r h;rw[if_pos X]at H;exact H
def Ql (zs:List Int):Nat→Nat
 | 0=>0
 | k+1=>if qr zs k=0 then Ql zs k else k+1
theorem ZS (zs:List Int): ∀k,Ql zs k≤k
 | 0=>Nat.le_refl _
 | k+1=>by
  unfold Ql;split
  ·exact Nat.le_succ_of_le (ZS zs k)
  ·exact Nat.le_refl _
theorem qa9 (zs:List Int): ∀k j,Ql zs k≤j→j<k→qr zs j=0
 | 0,j,_,h=>by omega
 | k+1,j,h1,h2=>by
  unfold Ql at h1;split at h1
  ·rename_i h;by_cases e:j=k
   ·rw[e];exact h
   ·exact qa9 zs k j h1 (by omega)
  ·omega
theorem qdB {w:World}{b off n o:Nat}{zs:List Int}(h:Qs w b off zs)(G:n≤zs.length):SrcIs w (.slice (some ⟨b,off,none⟩) n o) n ((zs.take n).map qt):=by
 refine⟨by simp;omega,?_,.inr ⟨⟨b,off,none⟩,o,rfl,?_⟩⟩
 ·intro u r;obtain⟨z, -,rfl⟩:=List.mem_map.1 r;rfl
 ·intro j u D;obtain⟨q,rfl⟩:=List.getElem?_eq_some_iff.1 D;simp at q
  rw[Go.WideShapes.add_plain,h.2 j (by omega)];simp[qt,qr,Lg,show j<zs.length by omega]
theorem qa8 (zs:List Int)(b off r:Nat)(w:World)(V:Qs w b off zs)(aa:zs.length≤r)(hm:zs.length≤4294967296):
  Calls Tryz.prog 159 #[.slice (some ⟨b,off,none⟩) zs.length r] w fun e w'=> ∃v',e= .returned v'∧w'.ownsRow w.heap.size 5 1 v' (Ql zs zs.length) ((zs.take (Ql zs zs.length)).map qt)∧Below w.heap.size w w':=by
 obtain⟨i0,hi,O,U,I⟩:=info_parts Qr;obtain⟨h1,h2⟩:=id V;have HC:=hid h2;have HB:=hid V;clear h2 V;go_enter Tryz.func159,Tryz.ntmps159
 go_wp2_with fail
 go_loopw [3] (fun i wr=> ∃k:Nat,i= .int .i64 k∧wr=w∧k≤zs.length∧Ql zs k=Ql zs zs.length) (fun i _=>(intOf i).toNat)
 case atStart=>exact⟨zs.length,rfl,rfl,Nat.le_refl _,rfl⟩
 case round=>
  obtain⟨k,rfl,rfl,hk,J⟩:=hrel;have X:=hid J;clear J
  cases k with
  | zero=>
   have k5:(0:Int)≤r:=by omega
   have hN:=ZS zs zs.length;have Y:=hid (show Ql zs zs.length=0 from X.out.symm);go_wp2_with (at_builtin;refine qT rfl _ _ _ rfl wr wr.heap.size rfl (by repeat(first|exact Below.refl _ _|refine Below.drew ?_)) 5 i0 (.int .u8 0) 1 Tryz.underlying24 hi O U I rfl _ 0 [] rfl (Wo _ _ _ _) _ 0 _ rfl (qdB (n:=0) HB.out (by omega)) (by unfold maxLen;omega) (by omega) ?_;intro v' w2 o G)
   go_ret
   refine⟨_,rfl,?_,G⟩;rw[Y.out];exact o
  | succ j=>
   have Z:=HC.out j (by omega);have k1:((j+1:Nat):Int) - 1=(j:Nat):=by omega
   have k2:0≤(j:Int)∧(j:Int)<4294967296:=by omega
   obtain⟨k3,k4⟩:=k2;have k5:(j:Int)+1≤r:=by omega
   by_cases D:qr zs j=0
   ·rw[D]at Z;go_wp2
    exact⟨⟨j,rfl,by trivial,by omega,by rw[←X.out];simp[Ql,D]⟩,by simp[intOf]⟩
   ·have Y:=hid (show j+1=Ql zs zs.length by rw[←X.out];simp[Ql,D]);have q:=beq_eq_false_iff_ne.2 D;have q2:(qr zs j==0)=false:=q;generalize qr zs j=z at Z D q q2;clear q D;go_wp2_with (at_builtin;refine qT rfl _ _ _ rfl wr wr.heap.size rfl (by repeat(first|exact Below.refl _ _|refine Below.drew ?_)) 5 i0 (.int .u8 0) 1 Tryz.underlying24 hi O U I rfl _ 0 [] rfl (Wo _ _ _ _) _ (j+1) _ rfl (qdB (n:=j+1) HB.out (by omega)) (by unfold maxLen;omega) (by omega) ?_;intro v' w2 o G)
    go_ret
    refine⟨_,rfl,?_,G⟩;rw[←Y.out];simpa using o
theorem j7 (zs:List Int)(b off X:Nat)(w:World)(hB:Qs w b off zs)(ai:zs.length≤X)(hm:zs.length≤4294967296):
  Calls Tryz.prog 190 #[.slice (some ⟨b,off,none⟩) zs.length X] w fun e w'=> ∃v',e= .returned v'∧w'.ownsRow w.heap.size 5 1 v' (Ql zs zs.length) ((zs.take (Ql zs zs.length)).map qt)∧Below w.heap.size w w':=by
 obtain⟨i0,hi,ac,af,ab⟩:=info_parts Qr;obtain⟨h1,h2⟩:=id hB;have HC:=hid h2;have HB:=hid hB;obtain⟨N,hN⟩:=Ex (Ql zs zs.length);have ad:=ZS zs zs.length;rw[hN]at ad⊢;have HN:=hid hN;clear h2 hB hN;go_enter Tryz.func190,Tryz.ntmps190
 go_wp2_with fail
 go_loopw [3] (fun i wr=> ∃k:Nat,i= .int .i64 k∧w=wr∧k≤zs.length∧Ql zs k=N) (fun i _=>(intOf i).toNat)
 case atStart=>exact⟨zs.length,rfl,rfl,Nat.le_refl _,HN.out⟩
 case round=>
  obtain⟨k,rfl,rfl,hk,U⟩:=hrel;have HE:=hid U;clear U;by_cases I: ∃j,k=j+1∧qr zs j=0
  ·obtain⟨j,rfl,hj⟩:=I;have Z:=HC.out j (by omega);have k1:((j+1:Nat):Int) - 1=(j:Nat):=by omega
   have k3:0≤(j:Int):=by omega
   have k4:(j:Int)<4294967296:=by omega
   rw[hj]at Z;go_wp2
   exact⟨⟨j,rfl,by trivial,by omega,by rw[←HE.out];simp[Ql,hj]⟩,by simp[intOf]⟩
  ·have ek:k=N:=by
    rw[←HE.out]
    cases k with
    | zero=>rfl
    | succ j=>simp only[Ql];rw[if_neg (fun h=>I ⟨j,rfl,h⟩)]
   have aa:k=0∨ ∃j z,k=j+1∧w.cell? ⟨b,off+j,none⟩=some (.int .u8 z)∧(z==0)=false:=by
    cases k with
    | zero=>exact .inl rfl
    | succ j=>exact .inr ⟨j,qr zs j,rfl,HC.out j (by omega),beq_eq_false_iff_ne.2 (fun h=>I ⟨j,rfl,h⟩)⟩
   clear I;subst ek;rcases aa with D|⟨j,z,D,Z,hq⟩
   case inl=>
    subst D;go_wp2_with fail
    go_loopw [4,5] (fun o i J=> ∃(m:Nat) (v:Value),o=v∧i= .int .i64 m∧m≤0∧J.ownsRow w.heap.size 5 1 v m ((zs.take m).map qt)∧Below w.heap.size w J) (fun _ i _=>0 - (intOf i).toNat)
    case atStart=>exact⟨0,_,rfl,rfl,by omega,Wo _ _ _ _,Below.refl _ _⟩
    case round=>
     obtain⟨i,v,rfl,rfl,ah,q,r⟩:=hrel;have V:=r.size;by_cases Y:i<0
     ·exact absurd Y (by omega)
     ·obtain rfl:i=0:=by omega
      go_wp2
      go_ret
      exact⟨_,rfl,q,r⟩
   case inr=>
    have HK:=hid D;have k1:((j+1:Nat):Int) - 1=(j:Nat):=by omega
    have k3:0≤(j:Int):=by omega
    have k4:(j:Int)<4294967296:=by omega
    subst D;go_wp2_with fail
    go_loopw [4,5] (fun o i J=> ∃(m:Nat) (v:Value),o=v∧i= .int .i64 m∧m≤j+1∧J.ownsRow w.heap.size 5 1 v m ((zs.take m).map qt)∧Below w.heap.size w J) (fun _ i _=>j+1 - (intOf i).toNat)
    case atStart=>exact⟨0,_,rfl,rfl,by omega,Wo _ _ _ _,Below.refl _ _⟩
    case round=>
     clear Z hq k1 k3 k4;obtain⟨i,v,rfl,rfl,ah,q,r⟩:=hrel;have V:=r.size;by_cases Y:i<j+1
     ·have ae:=(r.cell (p:=⟨b,off+i,none⟩) h1).trans (HC.out i (by omega));have e1:=hid (show(zs.take (i+1)).map qt=(zs.take i).map qt++[.int .u8 (qr zs i)] by
       rw[List.take_add_one,List.map_append];simp[qr,Lg,show i<zs.length by omega,qt])
      generalize qr zs i=y at ae e1;go_wp2_with (at_builtin;refine wpList_append_own _ rfl _ _ 24 rfl w.heap.size 5 i0 (.int .u8 0) 1 1 Tryz.underlying24 hi ac af ab rfl (by decide) _ _ _ rfl (q.alloc _) ⟨wr.heap.size,0,none⟩ 1 1 [.int .u8 y] rfl rfl (cell_one_new _ _ _) (by simp[Value.oneCell']) (by unfold maxLen;omega) (by omega) (by simp;omega) ?_;intro v' w2 G O _;have ag:Below w.heap.size w w2:=(r.alloc V _).grown O (by simp;omega) (fun k e=>(q.lt k e).1))
      rw[←e1.out]at G;exact⟨⟨i+1,v',rfl,rfl,by omega,G,ag⟩,by simp[intOf];omega⟩
     ·obtain rfl:i=j+1:=by omega
      go_wp2
      go_ret
      exact⟨_,rfl,q,r⟩
theorem qcp (big:Bool)(a:Option Addr)(n r:Nat)(w:World):
  Calls Tryz.prog 127 #[.int .i64 (kB big),.slice a n r] w fun e w'=>(∃x,e= .returned (.int .i64 x)∧(x=0↔n=mB big))∧w'=w:=by
 have o:=Z1 big
 cases big
 case' false=>
  change ∀w:World,Calls Tryz.prog 126 #[.int .i64 2] w fun e w'=>e= .returned (.tuple #[.int .i64 32,.int .i64 32,.int .i64 8])∧w'=w at o
  change Calls _ _ #[.int .i64 2,_] _ fun e w'=>(∃x,e= .returned (.int .i64 x)∧(x=0↔n=32))∧_
  obtain⟨N,q⟩: ∃N:Nat,N=32:=⟨_,rfl⟩
 case' true=>
  change ∀w:World,Calls Tryz.prog 126 #[.int .i64 1] w fun e w'=>e= .returned (.tuple #[.int .i64 64,.int .i64 64,.int .i64 16])∧w'=w at o
  change Calls _ _ #[.int .i64 1,_] _ fun e w'=>(∃x,e= .returned (.int .i64 x)∧(x=0↔n=64))∧_
  obtain⟨N,q⟩: ∃N:Nat,N=64:=⟨_,rfl⟩
 all_goals
  by_cases G:n<N
  case' neg=>by_cases D:N<n
  all_goals
   subst q;go_enter Tryz.func127,Tryz.ntmps127
   go_wp2_with fail
   refine(o _).mono ?_;rintro e w1 ⟨rfl,rfl⟩;go_wp2_with fail
   go_ret
   exact⟨⟨_,rfl,by omega⟩,rfl⟩
theorem qcj (big:Bool)(a:Option Addr)(n D:Nat)(w:World):
  Calls Tryz.prog 172 #[.int .i64 (kB big),.slice a n D] w fun e w'=>(∃x,e= .returned (.int .i64 x)∧(x=0↔n=mB big))∧w'=w:=by
 have q:=Yo big;have o:=Jk big
 cases big
 case' false=>
  change ∀w:World,Calls Tryz.prog 167 #[.int .i64 2] w fun e w'=>e= .returned (.int .i64 32)∧w'=w at q
  change ∀w:World,Calls Tryz.prog 164 #[.int .i64 2] w fun e w'=>e= .returned (.int .i64 32)∧w'=w at o
  change Calls _ _ #[.int .i64 2,_] _ fun e w'=>(∃x,e= .returned (.int .i64 x)∧(x=0↔n=32))∧_
  obtain⟨N,r⟩: ∃N:Nat,N=32:=⟨_,rfl⟩
 case' true=>
  change ∀w:World,Calls Tryz.prog 167 #[.int .i64 1] w fun e w'=>e= .returned (.int .i64 64)∧w'=w at q
  change ∀w:World,Calls Tryz.prog 164 #[.int .i64 1] w fun e w'=>e= .returned (.int .i64 64)∧w'=w at o
  change Calls _ _ #[.int .i64 1,_] _ fun e w'=>(∃x,e= .returned (.int .i64 x)∧(x=0↔n=64))∧_
  obtain⟨N,r⟩: ∃N:Nat,N=64:=⟨_,rfl⟩
 all_goals
  by_cases I:n<N
  case' neg=>by_cases G:N<n
  all_goals
   subst r;go_enter Tryz.func172,Tryz.ntmps172
   go_wp2_with fail
   refine(q _).mono ?_;rintro e w1 ⟨rfl,rfl⟩;go_wp2_with fail
   refine(o _).mono ?_;rintro e w1 ⟨rfl,rfl⟩;go_wp2_with fail
   try(refine(o _).mono ?_;rintro e w1 ⟨rfl,rfl⟩;go_wp2_with fail)
   go_ret
   exact⟨⟨_,rfl,by omega⟩,rfl⟩
def atB (big:Bool):Nat→Nat
 | 1=>0|2=>1|3=>2|4=>3|5=>4|6=>8|7=>12
 | 8=>cond big 16 14
 | _=>cond big 17 15
def szB (big:Bool):Nat→Nat
 | 5=>4
 | 6=>cond big 8 6
 | 7=>cond big 4 2
 | _=>1
theorem jJ (big:Bool)(f:Nat)(o:1≤f∧f≤9)(w:World):
  Calls Tryz.prog 165 #[.int .i64 (kB big),.int .i64 f] w fun e w'=>e= .returned (.tuple #[.int .i64 (atB big f:Nat),.int .i64 (szB big f:Nat)])∧w'=w:=by
 have h:f=1∨f=2∨f=3∨f=4∨f=5∨f=6∨f=7∨f=8∨f=9:=by omega
 clear o;rcases h with rfl|rfl|rfl|rfl|rfl|rfl|rfl|rfl|rfl<;>cases big<;>
 ·simp only[kB,atB,szB,cond];go_enter Tryz.func165,Tryz.ntmps165
  go_wp2
  exact Bp (results_tmp2 (fn:=Tryz.f165) (t:=4) (u:=5) rfl _ _ _) rfl ⟨rfl,rfl⟩
def qi4 (big:Bool)(w:World)(b:Nat):Prop:=b<w.heap.size∧ ∀f,1≤f→f≤9→w.cell? ⟨b,(f - 1)*5,none⟩=some (.int .i64 f)∧w.cell? ⟨b,(f - 1)*5+1,none⟩=some (.int .i64 (atB big f:Nat))∧w.cell? ⟨b,(f - 1)*5+2,none⟩=some (.int .i64 (szB big f:Nat))
theorem JK:(Tryz.prog.info? 219).map (fun i=>(i.zero,i.size,i.bytes))=some (some (.agg #[.int .i64 0,.int .i64 0,.int .i64 0,.string ⟨#[]⟩,.int .i64 0]),5,48):=by kernel_rfl
theorem qfM (big:Bool)(w:World):
  Calls Tryz.prog 128 #[.int .i64 (kB big)] w fun e w'=>(∃b,e= .returned (.slice (some ⟨b,0,none⟩) 9 9)∧w.heap.size≤b∧qi4 big w' b)∧Below w.heap.size w w':=by
 cases hie:Tryz.prog.info? 219 with
 | none=>have:=JK;rw[hie]at this;cases this
 | some ie=>
 have q:=JK;rw[hie]at q;simp only[Option.map_some,Option.some.injEq,Prod.mk.injEq]at q;obtain⟨r,o, -⟩:=q
 cases big<;>
 ·simp only[kB,cond];go_enter Tryz.func128,Tryz.ntmps128
  go_wp2_with ((with_reducible show wpList _ _ _ (Oper.mk _ (Op.buildSlice _ _ _) _ _ _ _::_) _ _);refine wpList_buildSlice rfl 215 219 9 _ rfl rowCells ie _ Tryz.underlying215 hie r (by rw[o];decide) (by rw[o];decide) (by rw[o];rfl) ?_)
  go_ret
  refine⟨⟨_,rfl,Nat.le_refl _,by simp,fun f G D=>?_⟩,Br.alloc Nl _⟩;have h:f=1∨f=2∨f=3∨f=4∨f=5∨f=6∨f=7∨f=8∨f=9:=by omega
  rcases h with rfl|rfl|rfl|rfl|rfl|rfl|rfl|rfl|rfl<;>exact⟨(qd (Wn w _) _).trans rfl,(qd (Wn w _) _).trans rfl,(qd (Wn w _) _).trans rfl⟩
end Go.Proofs.YthjoojnlnlmljaaGreat
