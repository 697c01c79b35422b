/- Lemmas. No condition. -/
import Derived.Test.YtahenngmaoellaaGreatO22
import Derived.Test.YtahenngmaoellaaGreatO15
import Derived.Laws.AppendOwnNone
set_option linter.all false
set_option maxRecDepth 100000
set_option maxHeartbeats 0
namespace Go.Proofs.YtahenngmaoellaaGreat
open Go.ChangeShapes Go.WideShapes Go.ChangeAt Go.RowKit Go.Joins Go.Shelf Go.Maps
open Go.Lib (hid)
variable{zs:List Int}
attribute [local go_sem] Oper.semAt_some
def Q7 (n c:Nat)(zs:List Int):List Int:=(List.range c).map fun i=>qO zs (n*i) n
def Ya (n c:Nat)(zs:List Int):Nat->List Int
 | 0=>List.replicate c 0
 | j+1=>(Ya n c zs j).set j (qO zs (n*j) n)
theorem yW (n c:Nat)(zs:List Int): ∀j,(Ya n c zs j).length=c
 | 0=>by simp[Ya]
 | j+1=>by simp[Ya,yW n c zs j]
theorem qfr (n c:Nat)(zs:List Int): ∀j i,i<j->i<c->(Ya n c zs j)[i]? =some (qO zs (n*i) n)
 | j+1,i,h,hc=>by
  simp only[Ya];by_cases e:i=j
  ·subst e;rw[List.getElem?_set_self (by rw[yW];exact hc)]
  ·rw[List.getElem?_set_ne (Ne.symm e)];exact qfr n c zs j i (by omega) hc
theorem Je (n c:Nat)(zs:List Int):Ya n c zs c=Q7 n c zs:=by
 apply List.ext_getElem?
 intro i;by_cases h:i<c
 ·rw[qfr n c zs c i h h];simp[Q7,h]
 ·rw[List.getElem?_eq_none (by rw[yW];omega),List.getElem?_eq_none (by simp[Q7];omega)]
theorem yu (n c:Nat)(q: ∀z∈zs,0<=z/\z<=255)(r:zs.length=n*c):Words (8*n) c (Q7 n c zs):=by
 refine⟨by simp[Q7],fun x o=>?_⟩;simp only[Q7,List.mem_map,List.mem_range]at o;obtain⟨i,hi,rfl⟩:=o;have:n*i+n<=n*c:=by
  rw[<-Nat.mul_succ];exact Nat.mul_le_mul_left n hi
 exact Qz q n (by omega)
theorem Holds8.slice {w:World}{v:Value}(h:Holds8 w v zs): ∃a o,v= .slice a zs.length o:=by
 obtain⟨a,o,e, -⟩:=h;exact⟨a,o,e⟩
theorem qce (zs:List Int)(v:Value)(at_:Nat)(w:World)(h:Holds8 w v zs)(r: ∀z∈zs,0<=z/\z<=255)(o:at_+8<=zs.length)(q:zs.length<=4294967296):
  Calls Tryz.prog 98 #[v,.int .i64 at_] w fun e w'=>e= .returned (.tuple #[.int .u64 (qO zs at_ 8),.int .i64 0])/\w'=w:=by
 have H:=hid (qdm zs v at_ w h r o q);go_enter Tryz.func98,Tryz.ntmps98
 go_wp2_with fail
 refine H.out.mono ?_;rintro e w1 ⟨rfl,rfl⟩;go_wp2
 exact Bp (results_tmp2 rfl _ _ _) rfl ⟨rfl,rfl⟩
theorem qfO (zs:List Int)(v:Value)(w:World)(h:Holds8 w v zs)(hz: ∀z∈zs,0<=z/\z<=255)(U:zs.length=128):
  Calls Tryz.prog 203 #[v] w fun e w'=>e= .returned (.tuple #[.agg (qj .u64 (Q7 8 16 zs)),.int .i64 0])/\Below w.heap.size w w':=by
 obtain⟨a,Z,rfl⟩:=h.slice;obtain⟨q,aa⟩:=Ex w.heap.size;have H:=hid h;have HZ:=hid hz;have V:=hid U;rw[U]at H⊢;clear h hz U;go_enter Tryz.func203,Tryz.ntmps203
 go_wp2_with fail
 refine qm ?_;intro W G;have X:W.heap[q]? =some (.cells Ka 257 (0,0)):=by
  rw[G];exact(Bh _ _ _ (by simp;omega)).trans (qe _ _ aa.symm)
 have r:W.heap[q+1]? =some (.cells (qj .u64 (Ya 8 16 zs 0)) 257 (0,0)):=by
  rw[G];exact qe _ _ (by simp;omega)
 have D:Below w.heap.size w W:=by
  rw[G];exact((Below.refl w.heap.size w).alloc Nl _).alloc (by simp) _
 have ad:q+1<W.heap.size:=(Ai r).1;clear G;have HR:=hid X;have HV:=hid r;have Y:=hid D;clear X r D;go_loopw [10] (fun i wr=> ∃j:Nat,i= .int .i64 j/\j<=16/\wr.heap[q+1]? =some (.cells (qj .u64 (Ya 8 16 zs j)) 257 (0,0))/\But (q+1) W wr) (fun i _=>16 - (intOf i).toNat)
 case atStart=>exact⟨0,rfl,Nat.zero_le _,HV.out,But.refl _ _⟩
 case round=>
  obtain⟨j,rfl,hj,r,D⟩:=hrel;have af:=D.size;have I:=hid r;have ac:=hid D;have S:=hid (Y.out.trans (D.below (by omega) Y.out.size));by_cases ae:j<16
  ·have c2:wr.cell? ⟨q+1,j,none⟩=some (.int .u64 (wd (Ya 8 16 zs j) j)):=(qq r _).trans (yD (yW _ _ _ _) (by omega));have f2: ∀o,wr.frozen? ⟨q+1,o,none⟩=false:=(qR r).2;have e8:IntKind.i64.wrap (8*(j:Int))=((8*j:Nat):Int):=by rw[IntKind.wrap_i64];omega
   have J:=hid (qce zs (.slice a 128 Z) (8*j) wr (qU H.out S.out) HZ.out (by have:=V.out;omega) (by have:=V.out;omega));have e9:((8*j:Nat):Int)=8*(j:Int):=by omega
   have ab:8*(j:Int)<=128:=by omega
   rw[e9]at J;clear r D e8 e9;go_wp2_with fail
   refine J.out.mono ?_;rintro e2 w2 ⟨rfl,rfl⟩;go_wp2
   exact⟨⟨j+1,rfl,by omega,by rw[Ya,<-Qk];exact block_setCell I.out _,ac.out.set _ _⟩,by simp[intOf];omega⟩
  ·obtain rfl:j=16:=by omega
   have G:=yu 8 16 HZ.out V.out;have O:=(D.block q (by omega) (by omega)).trans HR.out;rw[Je]at r;clear D I;go_wp2_with ((with_reducible show wpList _ _ _ (Oper.mk (some 23) _ _ _ _ _::_) _ _);refine wpList_load_row rfl 257 _ rfl (q+1) rfl _ _ _ _ r Tryz.underlying257 rfl (by rw[qg,G.1];kernel_rfl) ?_;refine wpList_store_row rfl 257 _ _ rfl q (qj .u64 (Q7 8 16 zs)) rfl rfl 257 _ O (by rw[qg,G.1];kernel_rfl) (by rw[qg,G.1];rfl) qA ?_)
   exact Bp (qI rfl _ _ _ _ _ _ _ rfl (setRow_heap _ _ _ _ _ _ O) Tryz.underlying257 rfl (by rw[qg,G.1];kernel_rfl)) rfl ⟨rfl,below_setRow (S.out.mono (by omega)) (by omega) _⟩
theorem qcL (zs:List Int)(v:Value)(w:World)(h:Holds8 w v zs)(hz: ∀z∈zs,0<=z/\z<=255)(U:zs.length=128):
  Calls Tryz.prog 198 #[v] w fun e w'=>e= .returned (.tuple #[.agg (qj .u64 (Q7 8 16 zs)),.int .i64 0])/\Below w.heap.size w w':=by
 obtain⟨a,Z,rfl⟩:=h.slice;obtain⟨q,aa⟩:=Ex w.heap.size;have H:=hid h;have HZ:=hid hz;have V:=hid U;rw[U]at H⊢;clear h hz U;go_enter Tryz.func198,Tryz.ntmps198
 go_wp2_with fail
 refine qm ?_;intro W G;have X:W.heap[q]? =some (.cells Ka 257 (0,0)):=by
  rw[G];exact(Bh _ _ _ (by simp;omega)).trans (qe _ _ aa.symm)
 have r:W.heap[q+1]? =some (.cells (qj .u64 (Ya 8 16 zs 0)) 257 (0,0)):=by
  rw[G];exact qe _ _ (by simp;omega)
 have D:Below w.heap.size w W:=by
  rw[G];exact((Below.refl w.heap.size w).alloc Nl _).alloc (by simp) _
 have ad:q+1<W.heap.size:=(Ai r).1;clear G;have HR:=hid X;have HV:=hid r;have Y:=hid D;clear X r D;go_loopw [5] (fun i wr=> ∃j:Nat,i= .int .i64 j/\j<=16/\wr.heap[q+1]? =some (.cells (qj .u64 (Ya 8 16 zs j)) 257 (0,0))/\But (q+1) W wr) (fun i _=>16 - (intOf i).toNat)
 case atStart=>exact⟨0,rfl,Nat.zero_le _,HV.out,But.refl _ _⟩
 case round=>
  obtain⟨j,rfl,hj,r,D⟩:=hrel;have af:=D.size;have I:=hid r;have ac:=hid D;have S:=hid (Y.out.trans (D.below (by omega) Y.out.size));by_cases ae:j<16
  ·have c2:wr.cell? ⟨q+1,j,none⟩=some (.int .u64 (wd (Ya 8 16 zs j) j)):=(qq r _).trans (yD (yW _ _ _ _) (by omega));have f2: ∀o,wr.frozen? ⟨q+1,o,none⟩=false:=(qR r).2;have e8:IntKind.i64.wrap (8*(j:Int))=((8*j:Nat):Int):=by rw[IntKind.wrap_i64];omega
   have J:=hid (qb0 zs (.slice a 128 Z) (8*j) wr (qU H.out S.out) HZ.out (by have:=V.out;omega) (by have:=V.out;omega));have e9:((8*j:Nat):Int)=8*(j:Int):=by omega
   have ab:8*(j:Int)<=128:=by omega
   rw[e9]at J;clear r D e8 e9;go_wp2_with fail
   refine J.out.mono ?_;rintro e2 w2 ⟨rfl,rfl⟩;go_wp2
   exact⟨⟨j+1,rfl,by omega,by rw[Ya,<-Qk];exact block_setCell I.out _,ac.out.set _ _⟩,by simp[intOf];omega⟩
  ·obtain rfl:j=16:=by omega
   have G:=yu 8 16 HZ.out V.out;have O:=(D.block q (by omega) (by omega)).trans HR.out;rw[Je]at r;clear D I;go_wp2_with ((with_reducible show wpList _ _ _ (Oper.mk (some 23) _ _ _ _ _::_) _ _);refine wpList_load_row rfl 257 _ rfl (q+1) rfl _ _ _ _ r Tryz.underlying257 rfl (by rw[qg,G.1];kernel_rfl) ?_;refine wpList_store_row rfl 257 _ _ rfl q (qj .u64 (Q7 8 16 zs)) rfl rfl 257 _ O (by rw[qg,G.1];kernel_rfl) (by rw[qg,G.1];rfl) qA ?_)
   exact Bp (qI rfl _ _ _ _ _ _ _ rfl (setRow_heap _ _ _ _ _ _ O) Tryz.underlying257 rfl (by rw[qg,G.1];kernel_rfl)) rfl ⟨rfl,below_setRow (S.out.mono (by omega)) (by omega) _⟩
def Ye (L:List Int)(f:Nat->Int):Nat->List Int
 | 0=>L
 | j+1=>(Ye L f j).set j (f j)
theorem yB (L:List Int)(f:Nat->Int): ∀j,(Ye L f j).length=L.length
 | 0=>rfl
 | j+1=>by simp[Ye,yB L f j]
theorem qfs (L:List Int)(f:Nat->Int): ∀j i,i<j->i<L.length->(Ye L f j)[i]? =some (f i)
 | j+1,i,h,hc=>by
  simp only[Ye];by_cases e:i=j
  ·subst e;rw[List.getElem?_set_self (by rw[yB];exact hc)]
  ·rw[List.getElem?_set_ne (Ne.symm e)];exact qfs L f j i (by omega) hc
theorem YU (L:List Int)(f:Nat->Int): ∀j i,j<=i->wd (Ye L f j) i=wd L i
 | 0,i,_=>rfl
 | j+1,i,h=>by
  have o:=YU L f j i (by omega);simp only[Ye];unfold wd at*;rw[Lg,List.getElem?_set_ne (by omega),<-Lg];exact o
theorem Jf (L:List Int)(f:Nat->Int):Ye L f L.length=(List.range L.length).map f:=by
 apply List.ext_getElem?
 intro i;by_cases h:i<L.length
 ·rw[qfs L f _ i h h];simp[h]
 ·rw[List.getElem?_eq_none (by rw[yB];omega),List.getElem?_eq_none (by simp;omega)]
def YZ (k:IntKind)(iv:List Int)(n:Nat)(zs:List Int)(i:Nat):Int:=bits .xor k (wd iv i) (qO zs (n*i) n)
def yL (k:IntKind)(iv:List Int)(n:Nat)(zs:List Int):List Int:=(List.range 8).map (YZ k iv n zs)
theorem YY {k:IntKind}{N:Nat}(q: ∀z,k.wrap z=z%2^N)(r:List Int)(n:Nat)(zs:List Int):Words N 8 (yL k r n zs):=by
 refine⟨by simp[yL],fun x o=>?_⟩;simp only[yL,List.mem_map,List.mem_range]at o;obtain⟨i,hi,rfl⟩:=o;exact Qe _ _ _ q _ _
theorem qfV (zs:List Int)(v:Value)(w:World)(h:Holds8 w v zs)(hz: ∀z∈zs,0<=z/\z<=255)(hl:zs.length=64):
  Calls Tryz.prog 188 #[v] w fun e w'=>e= .returned (.tuple #[.agg (qj .u64 (yL .u64 IVb 8 zs)),.int .i64 0])/\Below w.heap.size w w':=by
 obtain⟨a,ab,rfl⟩:=h.slice;obtain⟨J,ac⟩:=Ex w.heap.size;have H:=hid h;have HZ:=hid hz;have HL:=hid hl;rw[hl]at H⊢;clear h hz hl;go_enter Tryz.func188,Tryz.ntmps188
 go_wp2_with fail
 refine(qhe _).mono ?_;rintro e1 w1 ⟨rfl,I⟩;have Z:=(I.block J (by simp;omega)).trans (qe _ _ ac.symm);have ae:J+1<=w1.heap.size:=by have:=I.size;simp at this;omega
 have X:Below w.heap.size w w1:=((Below.refl w.heap.size w).alloc Nl _).trans (I.mono (by simp));clear I;go_wp2_with fail
 refine qm ?_;intro W G;obtain⟨D,O⟩:=Ex w1.heap.size;have hr:W.heap[J]? =some (.cells Kg 278 (0,0)):=by
  rw[G];exact(Bh _ _ _ (by omega)).trans Z
 have q:W.heap[D]? =some (.cells (qj .u64 (Ye IVb (YZ .u64 IVb 8 zs) 0)) 278 (0,0)):=by
  rw[G];exact qe _ _ O.symm
 have r:Below w.heap.size w W:=by
  rw[G];exact X.alloc (by omega) _
 rw[O];have ah:J+1<=D:=by omega
 clear G Z ae X O;have ai:D<W.heap.size:=(Ai q).1;have HR:=hid hr;have HV:=hid q;have HB:=hid r;clear hr q r;go_loopw [13] (fun i wr=> ∃j:Nat,i= .int .i64 j/\j<=8/\wr.heap[D]? =some (.cells (qj .u64 (Ye IVb (YZ .u64 IVb 8 zs) j)) 278 (0,0))/\But D W wr) (fun i _=>8 - (intOf i).toNat)
 case atStart=>exact⟨0,rfl,Nat.zero_le _,HV.out,But.refl _ _⟩
 case round=>
  obtain⟨j,rfl,hj,q,r⟩:=hrel;have ak:=r.size;have U:=hid q;have af:=hid r;have aa:=hid (HB.out.trans (r.below (by omega) HB.out.size));have ag:D<wr.heap.size:=(Ai q).1;by_cases aj:j<8
  ·have c2:wr.cell? ⟨D,j,none⟩=some (.int .u64 (wd IVb j)):=by
    rw[qq q,yD (n:=8) (by rw[yB];rfl) (by omega),YU _ _ _ _ Nl]
   have f2: ∀o,wr.frozen? ⟨D,o,none⟩=false:=(qR q).2;have e8:IntKind.i64.wrap (8*(j:Int))=((8*j:Nat):Int):=by rw[IntKind.wrap_i64];omega
   have V:=hid (qce zs (.slice a 64 ab) (8*j) wr (qU H.out aa.out) HZ.out (by have:=HL.out;omega) (by have:=HL.out;omega));have e9:((8*j:Nat):Int)=8*(j:Int):=by omega
   have ad:8*(j:Int)<=64:=by omega
   rw[e9]at V;clear q r e8 e9;go_wp2_with fail
   refine V.out.mono ?_;rintro e2 w2 ⟨rfl,rfl⟩;go_wp2
   exact⟨⟨j+1,rfl,by omega,by rw[Ye,<-Qk];exact block_setCell U.out _,af.out.set _ _⟩,by simp[intOf];omega⟩
  ·obtain rfl:j=8:=by omega
   have G:=YY (k:= .u64) (N:=64) (fun z=>IntKind.wrap_u64 z) IVb 8 zs;have Y:=(r.block J (by omega) (by omega)).trans HR.out;have S:(Ye IVb (YZ .u64 IVb 8 zs) 8)=yL .u64 IVb 8 zs:=Jf _ _;rw[S]at q;clear r U S;go_wp2_with ((with_reducible show wpList _ _ _ (Oper.mk (some 30) _ _ _ _ _::_) _ _);refine wpList_load_row rfl 278 _ rfl D rfl _ _ _ _ q Tryz.underlying278 rfl (by rw[qg,G.1];kernel_rfl) ?_;refine wpList_store_row rfl 278 _ _ rfl J (qj .u64 (yL .u64 IVb 8 zs)) rfl rfl 278 _ Y (by rw[qg,G.1];kernel_rfl) (by rw[qg,G.1];rfl) qA ?_)
   exact Bp (qI rfl _ _ _ _ _ _ _ rfl (setRow_heap _ _ _ _ _ _ Y) Tryz.underlying278 rfl (by rw[qg,G.1];kernel_rfl)) rfl ⟨rfl,below_setRow (aa.out.mono (by omega)) (by omega) _⟩
theorem qf4 (zs:List Int)(v:Value)(w:World)(h:Holds8 w v zs)(hz: ∀z∈zs,0<=z/\z<=255)(hl:zs.length=64):
  Calls Tryz.prog 210 #[v] w fun e w'=>e= .returned (.tuple #[.agg (qj .u64 (yL .u64 IVb 8 zs)),.int .i64 0])/\Below w.heap.size w w':=by
 obtain⟨a,ab,rfl⟩:=h.slice;obtain⟨S,ad⟩:=Ex w.heap.size;have H:=hid h;have HZ:=hid hz;have HL:=hid hl;rw[hl]at H⊢;clear h hz hl;go_enter Tryz.func210,Tryz.ntmps210
 go_wp2_with fail
 refine qm ?_;intro W G;obtain⟨q,X⟩:=Ex (S+1);have hr:W.heap[S]? =some (.cells Kg 278 (0,0)):=by
  rw[G];exact(Bh _ _ _ (by simp;omega)).trans (qe _ _ ad.symm)
 have r:W.heap[q]? =some (.cells (qj .u64 (Ye [0,0,0,0,0,0,0,0] (YZ .u64 IVb 8 zs) 0)) 278 (0,0)):=by
  rw[G];exact qe _ _ (by simp;omega)
 have D:Below w.heap.size w W:=by
  rw[G];exact((Below.refl w.heap.size w).alloc Nl _).alloc (by simp) _
 rw[X];have ai:S+1<=q:=by omega
 clear G X;have aj:q<W.heap.size:=(Ai r).1;have HR:=hid hr;have HV:=hid r;have HB:=hid D;clear hr r D;go_loopw [5] (fun i wr=> ∃j:Nat,i= .int .i64 j/\j<=8/\wr.heap[q]? =some (.cells (qj .u64 (Ye [0,0,0,0,0,0,0,0] (YZ .u64 IVb 8 zs) j)) 278 (0,0))/\But q W wr) (fun i _=>8 - (intOf i).toNat)
 case atStart=>exact⟨0,rfl,Nat.zero_le _,HV.out,But.refl _ _⟩
 case round=>
  obtain⟨j,rfl,hj,r,D⟩:=hrel;have ak:=D.size;have U:=hid r;have ah:=hid D;have Z:=hid (HB.out.trans (D.below (by omega) HB.out.size));have aa:q<wr.heap.size:=(Ai r).1;by_cases ag:j<8
  ·have c2:wr.cell? ⟨q,j,none⟩=some (.int .u64 (wd [0,0,0,0,0,0,0,0] j)):=by
    rw[qq r,yD (n:=8) (by rw[yB];rfl) (by omega),YU _ _ _ _ Nl]
   have f2: ∀o,wr.frozen? ⟨q,o,none⟩=false:=(qR r).2;have e8:IntKind.i64.wrap (8*(j:Int))=((8*j:Nat):Int):=by rw[IntKind.wrap_i64];omega
   have V:=hid (qb0 zs (.slice a 64 ab) (8*j) wr (qU H.out Z.out) HZ.out (by have:=HL.out;omega) (by have:=HL.out;omega));have e9:((8*j:Nat):Int)=8*(j:Int):=by omega
   have af:8*(j:Int)<=64:=by omega
   rw[e9]at V;clear r D e8 e9;go_wp2_with fail
   refine V.out.mono ?_;rintro e2 w2 ⟨rfl,rfl⟩;go_wp2_with fail
   refine(qdb j ag _).mono ?_;rintro e3 w3 ⟨rfl,J⟩;have I:=(J.block q aa).trans U.out;have ae:=hid I;have ac:=hid (ah.out.trans (But.of_below (b:=q) J));have c3:w3.cell? ⟨q,j,none⟩=some (.int .u64 (wd [0,0,0,0,0,0,0,0] j)):=by
    rw[qq I,yD (n:=8) (by rw[yB];rfl) (by omega),YU _ _ _ _ Nl]
   have f3: ∀o,w3.frozen? ⟨q,o,none⟩=false:=(qR I).2;clear c2 f2 J I;go_wp2
   exact⟨⟨j+1,rfl,by omega,by rw[Ye,<-Qk];exact block_setCell ae.out _,ac.out.set _ _⟩,by simp[intOf];omega⟩
  ·obtain rfl:j=8:=by omega
   have G:=YY (k:= .u64) (N:=64) (fun z=>IntKind.wrap_u64 z) IVb 8 zs;have Y:=(D.block S (by omega) (by omega)).trans HR.out;have O:(Ye [0,0,0,0,0,0,0,0] (YZ .u64 IVb 8 zs) 8)=yL .u64 IVb 8 zs:=Jf _ _;rw[O]at r;clear D U O;go_wp2_with ((with_reducible show wpList _ _ _ (Oper.mk (some 29) _ _ _ _ _::_) _ _);refine wpList_load_row rfl 278 _ rfl q rfl _ _ _ _ r Tryz.underlying278 rfl (by rw[qg,G.1];kernel_rfl) ?_;refine wpList_store_row rfl 278 _ _ rfl S (qj .u64 (yL .u64 IVb 8 zs)) rfl rfl 278 _ Y (by rw[qg,G.1];kernel_rfl) (by rw[qg,G.1];rfl) qA ?_)
   exact Bp (qI rfl _ _ _ _ _ _ _ rfl (setRow_heap _ _ _ _ _ _ Y) Tryz.underlying278 rfl (by rw[qg,G.1];kernel_rfl)) rfl ⟨rfl,below_setRow (Z.out.mono (by omega)) (by omega) _⟩
theorem qi0 (zs:List Int)(v:Value)(at_:Nat)(w:World)(h:Holds8 w v zs)(o: ∀z∈zs,0<=z/\z<=255)(q:at_+4<=zs.length)(J:zs.length<=4294967296):
  Calls Tryz.prog 131 #[v,.int .i64 at_,.int .i64 4] w fun e w'=>e= .returned (.tuple #[.int .u64 (qO zs at_ 4),.int .i64 0])/\w'=w:=by
 obtain⟨a,G,rfl,h⟩:=h;obtain⟨b,off,rfl,S,r⟩:=h.resolve_left (fun e=>by rw[e]at q;simp at q);have D:=hid r;clear h r;go_enter Tryz.func131,Tryz.ntmps131
 go_wp2_with fail
 go_loopw [8,25] (fun s i wr=> ∃k:Nat,s= .int .u64 (qO zs at_ k)/\i= .int .i64 k/\w=wr/\k<=4) (fun _ i _=>4 - (intOf i).toNat)
 case atStart=>exact⟨0,rfl,rfl,rfl,by omega⟩
 case round=>
  obtain⟨k,rfl,rfl,rfl,O⟩:=hrel;by_cases I:k<4
  ·have U:=D.out (at_+k) (by omega);have V:=orZ (qO zs at_ k) (qo zs (at_+k)) k (by omega) (Qz o k (by omega)) (qZ o (by omega)).2;go_wp2
   exact⟨⟨k+1,rfl,rfl,by trivial,by omega⟩,by simp[intOf];omega⟩
  ·obtain rfl:k=4:=by omega
   go_wp2
   exact Bp (results_tmp2 (fn:=Tryz.f131) (t:=6) (u:=7) rfl _ _ _) rfl ⟨rfl,rfl⟩
theorem qgu (zs:List Int)(v:Value)(at_:Nat)(w:World)(h:Holds8 w v zs)(q: ∀z∈zs,0<=z/\z<=255)(r:at_+4<=zs.length)(G:zs.length<=4294967296):
  Calls Tryz.prog 221 #[v,.int .i64 at_] w fun e w'=>e= .returned (.tuple #[.int .u32 (qO zs at_ 4),.int .i64 0])/\w'=w:=by
 have H:=hid (qi0 zs v at_ w h q r G);have o:=Qz q (at_:=at_) 4 r;simp only[Nat.reduceMul,Int.reducePow]at o;obtain⟨x,D⟩:=Ex (qO zs at_ 4);rw[D]at H o⊢;obtain⟨I,J⟩:=o;clear D;go_enter Tryz.func221,Tryz.ntmps221
 go_wp2_with fail
 refine H.out.mono ?_;rintro e w1 ⟨rfl,rfl⟩;go_wp2
 exact Bp (results_tmp2 rfl _ _ _) rfl ⟨rfl,rfl⟩
theorem qeG (n:Nat)(a:Option Addr)(o:Nat)(w:World):Calls Tryz.prog 205 #[.slice a n o,.int .i64 n] w fun e w'=>e= .returned (.int .i64 0)/\w'=w:=by
 go_enter Tryz.func205,Tryz.ntmps205
 go_wp2
 go_ret
 exact⟨rfl,rfl⟩
theorem JT (c:Nat)(hc:c<=16)(r:Nat)(T:TypeId)(zs:List Int)(v:Value)(w:World)(h:Holds8 w v zs)(S: ∀z∈zs,0<=z/\z<=255)(U:zs.length=4*c)(q:w.heap[r]? =some (.cells (qj .u32 (Ya 4 c zs 0)) T (0,0)))
  (I: ∀w',But r w w'->Holds8 w' v zs):
  Calls Tryz.prog 206 #[.slice (some ⟨r,0,none⟩) c c,v] w fun e w'=>e= .returned (.tuple #[])/\w'.heap[r]? =some (.cells (qj .u32 (Q7 4 c zs)) T (0,0))/\But r w w':=by
 have HN:=hid I;have HZ:=hid S;have Z:=hid U;have HV:=hid q;clear h S U q I;go_enter Tryz.func206,Tryz.ntmps206
 go_wp2_with fail
 go_loopw [7] (fun i wr=> ∃j:Nat,i= .int .i64 j/\j<=c/\wr.heap[r]? =some (.cells (qj .u32 (Ya 4 c zs j)) T (0,0))/\But r w wr) (fun i _=>c - (intOf i).toNat)
 case atStart=>exact⟨0,rfl,Nat.zero_le _,HV.out,But.refl _ _⟩
 case round=>
  obtain⟨j,rfl,hj,q,D⟩:=hrel;have O:=hid q;have J:=hid D;by_cases Y:j<c
  ·have c2:wr.cell? ⟨r,j,none⟩=some (.int .u32 (wd (Ya 4 c zs j) j)):=(qq q _).trans (yD (yW _ _ _ _) Y);have f2: ∀o,wr.frozen? ⟨r,o,none⟩=false:=(qR q).2;have e9:((4*j:Nat):Int)=4*(j:Int):=by omega
   have G:=hid (qgu zs v (4*j) wr (HN.out wr D) HZ.out (by have:=Z.out;omega) (by have:=Z.out;omega));have X:4*(j:Int)<=64:=by omega
   rw[e9]at G;clear q D e9;go_wp2_with fail
   refine G.out.mono ?_;rintro e2 w2 ⟨rfl,rfl⟩;go_wp2
   exact⟨⟨j+1,rfl,by omega,by rw[Ya,<-Qk];exact block_setCell O.out _,J.out.set _ _⟩,by simp[intOf];omega⟩
  ·obtain rfl:j=c:=by omega
   rw[Je]at q;have V:=hid q;clear q D;go_wp2
   exact bodyPost_end (results_none rfl _ _ _) rfl ⟨rfl,V.out,J.out⟩
theorem val4 (zs:List Int)(i:Nat):qO zs i 4=qo zs i+qo zs (i+1)*256+qo zs (i+2)*65536+qo zs (i+3)*16777216:=by
 simp only[qO,Nat.reduceMul,Int.reducePow,Nat.add_zero];omega
theorem qa3 (zs:List Int)(v:Value)(at_:Nat)(w:World)(h:Holds8 w v zs)(o: ∀z∈zs,0<=z/\z<=255)(r:at_+4<=zs.length)(S:zs.length<=4294967296):
  Calls Tryz.prog 215 #[v,.int .i64 at_] w fun e w'=>e= .returned (.int .u32 (qO zs at_ 4))/\ ∃m,w'=w.drewN m:=by
 obtain⟨a,G,rfl,h⟩:=h;obtain⟨b,off,rfl,h1,q⟩:=h.resolve_left (fun e=>by rw[e]at r;simp at r);have O:=q at_ (by omega);have D:=q (at_+1) (by omega);have I:=q (at_+2) (by omega);have J:=q (at_+3) (by omega);obtain⟨-,x0,Z⟩:=qZ o (show at_<zs.length by omega);obtain⟨-,y0,y1⟩:=qZ o (show at_+1<zs.length by omega);obtain⟨-,z0,z1⟩:=qZ o (show at_+2<zs.length by omega);obtain⟨-,t0,t1⟩:=qZ o (show at_+3<zs.length by omega);rw[val4];generalize qo zs at_=x at*;generalize qo zs (at_+1)=y at*;generalize qo zs (at_+2)=z at*;generalize qo zs (at_+3)=t at*;have X:IntKind.i64.wrap ((at_:Int)+1)=((at_+1:Nat):Int):=by rw[IntKind.wrap_i64];omega
 have e2:IntKind.i64.wrap ((at_:Int)+2)=((at_+2:Nat):Int):=by rw[IntKind.wrap_i64];omega
 have U:IntKind.i64.wrap ((at_:Int)+3)=((at_+3:Nat):Int):=by rw[IntKind.wrap_i64];omega
 have l0:at_<zs.length:=by omega
 have l1:at_+1<zs.length:=by omega
 have Y:at_+2<zs.length:=by omega
 have V:at_+3<zs.length:=by omega
 clear h q o;go_enter Tryz.func215,Tryz.ntmps215
 go_wp2_with fail
 go_quiet (fail)
 go_wp2
 go_ret
 exact⟨rfl,nq,rfl⟩
theorem qfP (zs:List Int)(v:Value)(w:World)(h:Holds8 w v zs)(V: ∀z∈zs,0<=z/\z<=255)(O:zs.length=64):
  Calls Tryz.prog 208 #[v] w fun e w'=>e= .returned (.tuple #[.agg (qj .u32 (Q7 4 16 zs)),.int .i64 0])/\Below w.heap.size w w':=by
 obtain⟨a,I,rfl⟩:=h.slice;obtain⟨q,aa⟩:=Ex w.heap.size;have H:=hid h;have Z:=hid V;have HL:=hid O;rw[O]at H⊢;clear h V O;go_enter Tryz.func208,Tryz.ntmps208
 go_wp2_with fail
 refine(qeG 64 a I _).mono ?_;rintro e1 w1 ⟨rfl,o⟩;have U:w1.heap[q]? =some (.cells Kd 302 (0,0)):=by
  rw[o];exact(Bh _ _ _ (by simp;omega)).trans (qe _ _ aa.symm)
 have hv:w1.heap[q+1]? =some (.cells (qj .u32 (Ya 4 16 zs 0)) 302 (0,0)):=by
  rw[o];exact qe _ _ (by simp;omega)
 have S:Below w.heap.size w w1:=by
  rw[o];exact((Below.refl w.heap.size w).alloc Nl _).alloc (by simp) _
 clear o;have r:=hid S;have HR:=hid U;have HV:=hid hv;clear U hv S;go_wp2_with fail
 refine(JT 16 (by decide) (q+1) 302 zs (.slice a 64 I) w1 (qU H.out r.out) Z.out HL.out HV.out (fun w' X=>qU H.out (r.out.trans (X.below (by omega) r.out.size)))).mono ?_;rintro e2 w2 ⟨rfl,Y,D⟩
 have G:=yu 4 16 Z.out HL.out;have J:=(D.block q (by have:=(Ai HR.out).1;omega) (by omega)).trans HR.out;have ab:=hid (r.out.trans (D.below (by omega) r.out.size));clear D;go_wp2_with ((with_reducible show wpList _ _ _ (Oper.mk (some 15) _ _ _ _ _::_) _ _);refine wpList_load_row rfl 302 _ rfl (q+1) rfl _ _ _ _ Y Tryz.underlying302 rfl (by rw[qg,G.1];kernel_rfl) ?_;refine wpList_store_row rfl 302 _ _ rfl q (qj .u32 (Q7 4 16 zs)) rfl rfl 302 _ J (by rw[qg,G.1];kernel_rfl) (by rw[qg,G.1];rfl) qA ?_)
 exact Bp (qI rfl _ _ _ _ _ _ _ rfl (setRow_heap _ _ _ _ _ _ J) Tryz.underlying302 rfl (by rw[qg,G.1];kernel_rfl)) rfl ⟨rfl,below_setRow (ab.out.mono (by omega)) (by omega) _⟩
theorem qcM (zs:List Int)(v:Value)(w:World)(h:Holds8 w v zs)(hz: ∀z∈zs,0<=z/\z<=255)(U:zs.length=64):
  Calls Tryz.prog 200 #[v] w fun e w'=>e= .returned (.tuple #[.agg (qj .u32 (Q7 4 16 zs)),.int .i64 0])/\Below w.heap.size w w':=by
 obtain⟨a,Z,rfl⟩:=h.slice;obtain⟨q,aa⟩:=Ex w.heap.size;have H:=hid h;have HZ:=hid hz;have V:=hid U;rw[U]at H⊢;clear h hz U;go_enter Tryz.func200,Tryz.ntmps200
 go_wp2_with fail
 refine qm ?_;intro W D;have X:W.heap[q]? =some (.cells Kd 302 (0,0)):=by
  rw[D];exact(Bh _ _ _ (by simp;omega)).trans (qe _ _ aa.symm)
 have G:W.heap[q+1]? =some (.cells (qj .u32 (Ya 4 16 zs 0)) 302 (0,0)):=by
  rw[D];exact qe _ _ (by simp;omega)
 have r:Below w.heap.size w W:=by
  rw[D];exact((Below.refl w.heap.size w).alloc Nl _).alloc (by simp) _
 have ad:q+1<W.heap.size:=(Ai G).1;clear D;have HR:=hid X;have HV:=hid G;have Y:=hid r;clear X G r;go_loopw [5] (fun i wr=> ∃j:Nat,i= .int .i64 j/\j<=16/\wr.heap[q+1]? =some (.cells (qj .u32 (Ya 4 16 zs j)) 302 (0,0))/\But (q+1) W wr) (fun i _=>16 - (intOf i).toNat)
 case atStart=>exact⟨0,rfl,Nat.zero_le _,HV.out,But.refl _ _⟩
 case round=>
  obtain⟨j,rfl,hj,G,r⟩:=hrel;have af:=r.size;have I:=hid G;have ac:=hid r;have S:=hid (Y.out.trans (r.below (by omega) Y.out.size));by_cases ae:j<16
  ·have e9:((4*j:Nat):Int)=4*(j:Int):=by omega
   have J:=hid (qa3 zs (.slice a 64 Z) (4*j) wr (qU H.out S.out) HZ.out (by have:=V.out;omega) (by have:=V.out;omega));have ab:4*(j:Int)<=64:=by omega
   rw[e9]at J;clear r e9;go_wp2_with fail
   refine J.out.mono ?_;rintro e2 w2 ⟨rfl,m,rfl⟩;have c2:(wr.drewN m).cell? ⟨q+1,j,none⟩=some (.int .u32 (wd (Ya 4 16 zs j) j)):=(qq (W:=wr.drewN m) G _).trans (yD (yW _ _ _ _) (by omega));have f2: ∀o,(wr.drewN m).frozen? ⟨q+1,o,none⟩=false:=(qR (W:=wr.drewN m) G).2;go_wp2
   exact⟨⟨j+1,rfl,by omega,by rw[Ya,<-Qk];exact block_setCell (w:=wr.drewN m) I.out _,(ac.out.drewN m).set _ _⟩,by simp[intOf];omega⟩
  ·obtain rfl:j=16:=by omega
   have D:=yu 4 16 HZ.out V.out;have O:=(r.block q (by omega) (by omega)).trans HR.out;rw[Je]at G;clear r I;go_wp2_with ((with_reducible show wpList _ _ _ (Oper.mk (some 26) _ _ _ _ _::_) _ _);refine wpList_load_row rfl 302 _ rfl (q+1) rfl _ _ _ _ G Tryz.underlying302 rfl (by rw[qg,D.1];kernel_rfl) ?_;refine wpList_store_row rfl 302 _ _ rfl q (qj .u32 (Q7 4 16 zs)) rfl rfl 302 _ O (by rw[qg,D.1];kernel_rfl) (by rw[qg,D.1];rfl) qA ?_)
   exact Bp (qI rfl _ _ _ _ _ _ _ rfl (setRow_heap _ _ _ _ _ _ O) Tryz.underlying302 rfl (by rw[qg,D.1];kernel_rfl)) rfl ⟨rfl,below_setRow (S.out.mono (by omega)) (by omega) _⟩
theorem qhp (n c:Nat)(zs:List Int){i:Nat}(hi:i<c):wd (Q7 n c zs) i=qO zs (n*i) n:=by
 simp[wd,Q7,Lg,hi]
theorem qfW (zs:List Int)(v:Value)(w:World)(h:Holds8 w v zs)(hz: ∀z∈zs,0<=z/\z<=255)(hl:zs.length=32):
  Calls Tryz.prog 191 #[v] w fun e w'=>e= .returned (.tuple #[.agg (qj .u32 (yL .u32 IVs 4 zs)),.int .i64 0])/\Below w.heap.size w w':=by
 obtain⟨a,af,rfl⟩:=h.slice;obtain⟨q,an⟩:=Ex w.heap.size;have H:=hid h;have HZ:=hid hz;have HL:=hid hl;rw[hl]at H⊢;clear h hz hl;go_enter Tryz.func191,Tryz.ntmps191
 go_wp2_with fail
 refine(qeG 32 a af _).mono ?_;rintro e1 w1 ⟨rfl,S⟩;have ac:w1.heap[q]? =some (.cells Kf 288 (0,0)):=by
  rw[S];exact qe _ _ an.symm
 have ag:Below w.heap.size w w1:=by
  rw[S];exact(Below.refl w.heap.size w).alloc Nl _
 have ak:w1.heap.size=q+1:=by rw[S];simp;omega
 clear S;go_wp2_with fail
 have am:(w1.alloc (.cells Kf 288 (0,0))).heap[q+1]? =some (.cells (qj .u32 (Ya 4 8 zs 0)) 288 (0,0)):=qe _ _ ak.symm;have r:=ag.alloc (by omega) (.cells Kf 288 (0,0));refine(JT 8 (by decide) (q+1) 288 zs (.slice a 32 af) _ (qU H.out r) HZ.out HL.out am (fun w' X=>qU H.out (r.trans (X.below (by omega) r.size)))).mono ?_;rintro e2 w2 ⟨rfl,Y,V⟩
 have ai:=(V.block q (by simp;omega) (by omega)).trans ((Bh _ _ _ (by omega)).trans ac);have O:=r.trans (V.below (by omega) r.size);have aj:q+1<w2.heap.size:=(Ai Y).1;clear V ac ag am r ak;go_wp2_with fail
 refine(qhd _).mono ?_;rintro e3 w3 ⟨rfl,U⟩;have aa:=(U.block (q+1) aj).trans Y;have ad:=(U.block q (by omega)).trans ai;have ah:=O.trans (U.mono O.size);have ap:q+1<w3.heap.size:=(Ai aa).1;clear U Y ai O aj;go_wp2_with fail
 refine qm ?_;intro W I;obtain⟨J,Z⟩:=Ex w3.heap.size;have hr:W.heap[q]? =some (.cells Kf 288 (0,0)):=by rw[I];exact(Bh _ _ _ (by omega)).trans ad
 have hp:W.heap[q+1]? =some (.cells (qj .u32 (Q7 4 8 zs)) 288 (0,0)):=by rw[I];exact(Bh _ _ _ (by omega)).trans aa
 have D:W.heap[J]? =some (.cells (qj .u32 (Ye IVs (YZ .u32 IVs 4 zs) 0)) 288 (0,0)):=by rw[I];exact qe _ _ Z.symm
 have G:Below w.heap.size w W:=by rw[I];exact ah.alloc (by omega) _
 rw[Z];have aw:q+1<J:=by omega
 have av:J<W.heap.size:=(Ai D).1;clear I ad aa ah ap Z;have HR:=hid hr;have HP:=hid hp;have HV:=hid D;have HB:=hid G;clear hr hp D G;go_loopw [18] (fun i wr=> ∃j:Nat,i= .int .i64 j/\j<=8/\wr.heap[J]? =some (.cells (qj .u32 (Ye IVs (YZ .u32 IVs 4 zs) j)) 288 (0,0))/\But J W wr) (fun i _=>8 - (intOf i).toNat)
 case atStart=>exact⟨0,rfl,Nat.zero_le _,HV.out,But.refl _ _⟩
 case round=>
  obtain⟨j,rfl,hj,D,G⟩:=hrel;have ax:=G.size;have ae:=hid D;have aq:=hid G;have ar:=hid (HB.out.trans (G.below (by omega) HB.out.size));have au:J<wr.heap.size:=(Ai D).1;by_cases ao:j<8
  ·have c2:wr.cell? ⟨J,j,none⟩=some (.int .u32 (wd IVs j)):=by
    rw[qq D,yD (n:=8) (by rw[yB];rfl) (by omega),YU _ _ _ _ Nl]
   have c1:wr.cell? ⟨q+1,j,none⟩=some (.int .u32 (qO zs (4*j) 4)):=by
    rw[qq ((G.block (q+1) (by omega) (by omega)).trans HP.out),yD (n:=8) (by simp[Q7]) (by omega),qhp _ _ _ ao]
   have f2: ∀o,wr.frozen? ⟨J,o,none⟩=false:=(qR D).2;have q1:q+1<wr.heap.size:=by omega
   clear D G;go_wp2_with fail
   refine qk (by dsimp only[List.dropLast]) (by rfl) (by rfl) (by kernel_rfl) (by kernel_rfl) (by kernel_rfl) (by kernel_rfl) ?_;repeat(go_big_quiet_step (fail))
   refine wpQuiet_nil ?_;intro _ X;obtain⟨n1,rfl⟩:=X;go_wp2
   exact⟨⟨j+1,rfl,by omega,by rw[Ye,<-Qk];exact block_setCell (w:=wr.drewN n1) ae.out _,(aq.out.drewN n1).set _ _⟩,by simp[intOf];omega⟩
  ·obtain rfl:j=8:=by omega
   have I:=YY (k:= .u32) (N:=32) (fun z=>IntKind.wrap_u32 z) IVs 4 zs;have al:=(G.block q (by omega) (by omega)).trans HR.out;have ab:(Ye IVs (YZ .u32 IVs 4 zs) 8)=yL .u32 IVs 4 zs:=Jf _ _;rw[ab]at D;clear G ae ab;go_wp2_with ((with_reducible show wpList _ _ _ (Oper.mk (some 30) _ _ _ _ _::_) _ _);refine wpList_load_row rfl 288 _ rfl (J) rfl _ _ _ _ D Tryz.underlying288 rfl (by rw[qg,I.1];kernel_rfl) ?_;refine wpList_store_row rfl 288 _ _ rfl q (qj .u32 (yL .u32 IVs 4 zs)) rfl rfl 288 _ al (by rw[qg,I.1];kernel_rfl) (by rw[qg,I.1];rfl) qA ?_)
   exact Bp (qI rfl _ _ _ _ _ _ _ rfl (setRow_heap _ _ _ _ _ _ al) Tryz.underlying288 rfl (by rw[qg,I.1];kernel_rfl)) rfl ⟨rfl,below_setRow (ar.out.mono (by omega)) (by omega) _⟩
theorem qf5 (zs:List Int)(v:Value)(w:World)(h:Holds8 w v zs)(hz: ∀z∈zs,0<=z/\z<=255)(Z:zs.length=32):
  Calls Tryz.prog 211 #[v] w fun e w'=>e= .returned (.tuple #[.agg (qj .u32 (yL .u32 IVs 4 zs)),.int .i64 0])/\Below w.heap.size w w':=by
 obtain⟨a,aa,rfl⟩:=h.slice;obtain⟨q,ad⟩:=Ex w.heap.size;have H:=hid h;have HZ:=hid hz;have HL:=hid Z;rw[Z]at H⊢;clear h hz Z;go_enter Tryz.func211,Tryz.ntmps211
 go_wp2_with fail
 refine(qb2 _).mono ?_;rintro e3 w3 ⟨rfl,I⟩;have S:=(I.block q (by simp;omega)).trans ((Bh _ _ _ (by simp;omega)).trans (qe _ _ ad.symm));have O:=(I.block (q+1) (by simp;omega)).trans (qe _ _ (by simp;omega));have V:Below w.heap.size w w3:=(((Below.refl w.heap.size w).alloc Nl _).alloc (by simp) _).trans (I.mono (by simp;omega));have af:q+1<w3.heap.size:=by have:=I.size;simp at this;omega
 clear I;go_wp2_with ((with_reducible show wpList _ _ _ (Oper.mk none (Op.store 288 _ _) _ _ _ _::_) _ _);refine wpList_store_row rfl 288 _ _ rfl (q+1) Ki rfl rfl 288 _ O (by kernel_rfl) (by kernel_rfl) (by kernel_rfl) ?_)
 refine qm ?_;intro W G;have hr:W.heap[q]? =some (.cells Kf 288 (0,0)):=by rw[G];exact(setRow_other _ _ _ _ (by omega)).trans S
 have r:W.heap[q+1]? =some (.cells (qj .u32 (Ye IVs (YZ .u32 IVs 4 zs) 0)) 288 (0,0)):=by rw[G];exact setRow_heap _ _ _ _ _ _ O
 have D:Below w.heap.size w W:=by rw[G];exact below_setRow V (by omega) _
 have ah:q+1<W.heap.size:=(Ai r).1;clear G S O V af;have HR:=hid hr;have HV:=hid r;have HB:=hid D;clear hr r D;go_loopw [5] (fun i wr=> ∃j:Nat,i= .int .i64 j/\j<=8/\wr.heap[q+1]? =some (.cells (qj .u32 (Ye IVs (YZ .u32 IVs 4 zs) j)) 288 (0,0))/\But (q+1) W wr) (fun i _=>8 - (intOf i).toNat)
 case atStart=>exact⟨0,rfl,Nat.zero_le _,HV.out,But.refl _ _⟩
 case round=>
  obtain⟨j,rfl,hj,r,D⟩:=hrel;have aj:=D.size;have U:=hid r;have ag:=hid D;have Y:=hid (HB.out.trans (D.below (by omega) HB.out.size));by_cases ai:j<8
  ·have c2:wr.cell? ⟨q+1,j,none⟩=some (.int .u32 (wd IVs j)):=by
    rw[qq r,yD (n:=8) (by rw[yB];rfl) (by omega),YU _ _ _ _ Nl]
   have f2: ∀o,wr.frozen? ⟨q+1,o,none⟩=false:=(qR r).2;have e9:((4*j:Nat):Int)=4*(j:Int):=by omega
   have ae:=hid (fun n=>qa3 zs (.slice a 32 aa) (4*j) (wr.drewN n) (qU H.out (Y.out.trans (QY n))) HZ.out (by have:=HL.out;omega) (by have:=HL.out;omega));have e8:IntKind.i64.wrap (4*(j:Int))=((4*j:Nat):Int):=by rw[IntKind.wrap_i64];omega
   have hS:=hid (show YZ .u32 IVs 4 zs j=bits .xor .u32 (wd IVs j) (qO zs (4*j) 4) from rfl);generalize ac:4*j=k4 at*;clear r D ac e9;go_wp2_with fail
   refine qk (by dsimp only[List.dropLast]) (by rfl) (by rfl) (by kernel_rfl) (by kernel_rfl) (by kernel_rfl) (by kernel_rfl) ?_;repeat(go_big_quiet_step (exact Calls.quiet_of (ae.out _)))
   refine wpQuiet_nil ?_;intro _ ab;obtain⟨n1,rfl⟩:=ab;go_wp2
   exact⟨⟨j+1,rfl,by omega,by rw[Ye,<-Qk,hS.out];exact block_setCell (w:=wr.drewN n1) U.out _,(ag.out.drewN n1).set _ _⟩,by simp[intOf];omega⟩
  ·obtain rfl:j=8:=by omega
   have G:=YY (k:= .u32) (N:=32) (fun z=>IntKind.wrap_u32 z) IVs 4 zs;have X:=(D.block q (by omega) (by omega)).trans HR.out;have J:(Ye IVs (YZ .u32 IVs 4 zs) 8)=yL .u32 IVs 4 zs:=Jf _ _;rw[J]at r;clear D U J;go_wp2_with ((with_reducible show wpList _ _ _ (Oper.mk (some 31) _ _ _ _ _::_) _ _);refine wpList_load_row rfl 288 _ rfl (q+1) rfl _ _ _ _ r Tryz.underlying288 rfl (by rw[qg,G.1];kernel_rfl) ?_;refine wpList_store_row rfl 288 _ _ rfl q (qj .u32 (yL .u32 IVs 4 zs)) rfl rfl 288 _ X (by rw[qg,G.1];kernel_rfl) (by rw[qg,G.1];rfl) qA ?_)
   exact Bp (qI rfl _ _ _ _ _ _ _ rfl (setRow_heap _ _ _ _ _ _ X) Tryz.underlying288 rfl (by rw[qg,G.1];kernel_rfl)) rfl ⟨rfl,below_setRow (Y.out.mono (by omega)) (by omega) _⟩
end Go.Proofs.YtahenngmaoellaaGreat
namespace Go.Proofs.YtahenngmaoellaaGreat
open Go.ChangeShapes Go.WideShapes Go.ChangeAt Go.RowKit Go.Joins Go.Shelf Go.Maps
open Go.Lib (hid)
variable{n base:Nat}{W:World}{v:Value}{zs:List Int}
attribute [local go_sem] Oper.semAt_some zi
def qQ (n:Nat)(h:List Int):Nat->List Int
 | 0=>[]
 | i+1=>qQ n h i++qD (wd h i).toNat n
theorem JA (n:Nat)(h:List Int): ∀i,(qQ n h i).length=n*i
 | 0=>rfl
 | i+1=>by rw[qQ,List.length_append,JA n h i,qH,Nat.mul_succ]
theorem yK {N:Nat}{L:List Int}(h:Words N n L){i:Nat}(hi:i<n):0<=wd L i/\wd L i<2^N:=by
 have e:wd L i=L[i]'(by rw[h.1];exact hi):=by unfold wd;simp[Lg,h.1,hi]
 rw[e];exact h.2 _ (List.getElem_mem _)
theorem qgT (x k:Nat):0<=byt x k/\byt x k<=255:=by unfold byt;omega
theorem zr (x k:Nat): ∀z∈qD x k,0<=z/\z<=255:=by
 intro z o;simp only[qD,List.mem_map]at o;obtain⟨j, -,rfl⟩:=o;exact qgT x j
theorem JB (n:Nat)(h:List Int): ∀i,∀z∈qQ n h i,0<=z/\z<=255
 | 0,z,o=>by simp[qQ]at o
 | i+1,z,o=>by
  rw[qQ,List.mem_append]at o;rcases o with o|o
  ·exact JB n h i z o
  ·exact zr _ _ z o
theorem qi {W':World}{e:TypeId}{size:Nat}{xs:List Value}(h:W.ownsRow base e size v n xs)(I: ∀g,base<=g->g<W.heap.size->W'.heap[g]? =W.heap[g]?):W'.ownsRow base e size v n xs:=by
 refine⟨h.1,?_⟩;rcases h.2 with o|⟨g,D,q,G,o,r,J⟩
 ·exact .inl o
 ·exact .inr ⟨g,D,q,G,o,(I g o (Ai r).1).trans r,J⟩
theorem qg7 (h:W.ownsRow base 5 1 v n (zs.map qp))(r:0<n):
  ∃g o,v= .slice (some ⟨g,0,none⟩) n o/\g<W.heap.size/\ ∀j u,(zs.map qp)[j]? =some u->W.cell? (Addr.add ⟨g,0,none⟩ j)=some u:=by
 rcases h.2 with⟨rfl,D⟩|⟨g,o,q,rfl,G⟩
 ·omega
 ·exact⟨g,o,rfl,(h.lt g rfl).2,h.cells (g:=g) rfl⟩
theorem qfu : ∀u∈zs.map qp,u.oneCell'=true:=by
 intro u o;obtain⟨z, -,rfl⟩:=List.mem_map.1 o;rfl
theorem yj (h:W.ownsRow base 5 1 v n (zs.map qp)):Holds8 W v zs:=by
 have r:n=zs.length:=by have:=h.1;simpa using this.symm
 subst r;by_cases q:zs.length=0
 ·have:zs=[]:=List.length_eq_zero_iff.1 q
  subst this;rcases h.2 with⟨rfl, -⟩|⟨g,o,I,rfl, -⟩
  ·exact⟨none,0,rfl,.inl rfl⟩
  ·exact⟨_,o,rfl,.inl rfl⟩
 ·obtain⟨g,o,rfl,G,D⟩:=qg7 h (Nat.pos_of_ne_zero q);refine⟨_,o,rfl,.inr ⟨g,0,rfl,G,fun i hi=>?_⟩⟩;have:=D i (.int .u8 (qo zs i)) (by simp[qp,qo,Lg,hi])
  rw[show(⟨g,0+i,none⟩:Addr)=Addr.add ⟨g,0,none⟩ i by by_cases h:i=0<;>simp[Addr.add,h]];exact this
theorem qgR (h:List Int)(hh:Words 64 8 h)(w:World):
  Calls Tryz.prog 190 #[.agg (qj .u64 h)] w fun e w'=> ∃v,e= .returned v/\w'.ownsRow w.heap.size 5 1 v 64 ((qQ 8 h 8).map qp)/\Below w.heap.size w w':=by
 obtain⟨i0,hi,ae,ad,af⟩:=info_parts Qu;obtain⟨q,ac⟩:=Ex w.heap.size;go_enter Tryz.func190,Tryz.ntmps190
 obtain⟨G,X⟩:=Ex (w.alloc (.cells (qj .u64 h) 278));have ao:G.heap.size=w.heap.size+1:=by rw[<-X];simp
 have S:Below w.heap.size w G:=by rw[<-X];exact(Below.refl w.heap.size w).alloc Nl _
 have ag:G.heap[q]? =some (.cells (qj .u64 h) 278 (0,0)):=by rw[<-X];exact qe _ _ ac.symm
 obtain⟨w1,hr,r,o⟩:=run_make_own (P:=Tryz.prog) G w.heap.size 24 5 i0 (.int .u8 0) 1 Tryz.underlying24 hi ae ad .i64 .i64 64 (by rw[af];omega) (by unfold maxLen;omega) (by omega);have al:(Instr.makeSlice 24 (.int .i64 0) (.int .i64 64)).run Tryz.prog G= .ok (.slice (some ⟨G.heap.size,0,none⟩) 0 64) w1:=hr;have ai:w1.heap[q]? =some (.cells (qj .u64 h) 278 (0,0)):=(o.block q (by omega) (by simp)).trans ag;have ab:Below w.heap.size w w1:=S.grown o (by omega) (fun k e=>by cases e);obtain⟨bg,ah⟩:=Ex G.heap.size;have ar:q<bg:=by omega
 rw[ah]at al r;have HR:=hid ai;have HB:=hid ab;have HO:=hid r;have Z:=hid hh;clear hr o S ag ab r ao ah;rw[ac]at HO HB⊢;go_wp2_with ((with_reducible show wpList _ _ _ (Oper.mk _ (Op.load _ _) _ _ _ _::_) _ _);refine wpList_load_row rfl 278 _ rfl q rfl _ _ _ _ HR.out Tryz.underlying278 rfl (by rw[qg,Z.out.1];kernel_rfl) ?_)
 go_loopw [3,8] (fun s i wr=> ∃(k:Nat) (v:Value),s=v/\i= .int .i64 k/\k<=8/\wr.ownsRow q 5 1 v (8*k) ((qQ 8 h k).map qp)/\Below q w wr) (fun _ i _=>8 - (intOf i).toNat)
 case atStart=>exact⟨0,_,rfl,rfl,Nat.zero_le _,HO.out,HB.out⟩
 case round=>
  obtain⟨k,v,rfl,rfl,hk,D,hb⟩:=hrel;have ap:=hb.size;by_cases V:k<8
  ·have ha:=qF (k:= .u64) Z.out V;obtain⟨x,hx⟩: ∃x:Nat,(x:Int)=wd h k:=⟨(wd h k).toNat,by have:=(yK Z.out V);omega⟩;rw[<-hx]at ha;have am:(x:Int)<=18446744073709551615:=by have:=(yK Z.out V);omega
   have U:(wd h k).toNat=x:=by omega
   have e1:(qQ 8 h (k+1)).map qp=(qQ 8 h k).map qp++(qD x 8).map qp:=by rw[qQ,List.map_append,U]
   have E1:=hid e1;have OW:=hid D;have BW:=hid hb;clear e1 D hb hx U;go_wp2_with fail
   refine(JG x am _).mono ?_;rintro e2 w2 ⟨v2,rfl,aa,O⟩
   have J:=qi OW.out (W':=w2) (fun g _ hg=>O.block g hg);have ak:Below q w w2:=BW.out.trans (O.mono (by omega));have aq:=O.size;obtain⟨g2,c2,rfl,au,aj⟩:=qg7 aa (by decide);clear O;go_wp2_with (at_builtin;refine wpList_append_own _ rfl _ _ 24 rfl q 5 i0 (.int .u8 0) 1 1 Tryz.underlying24 hi ae ad af rfl (by decide) _ _ _ rfl J ⟨g2,0,none⟩ 8 c2 ((qD x 8).map qp) rfl (by rw[List.length_map,qH]) aj qfu (by unfold maxLen;omega) (by omega) (by omega) ?_;intro v' w3 I Y _;have an:Below q w w3:=ak.grown Y (by omega) (fun k e=>(J.lt k e).1))
   rw[<-E1.out,<-Nat.mul_succ]at I;exact⟨⟨k+1,v',rfl,rfl,by omega,I,an⟩,by simp[intOf];omega⟩
  ·obtain rfl:k=8:=by omega
   go_wp2
   go_ret
   exact⟨_,rfl,D,hb⟩
attribute [local go_sem] Oper.semAt_some zi
theorem qgN (W:World)(a0 a1 a2 o:Value)(T:TypeId): ∀j u,[a0,a1,a2,o][j]? =some u->(W.alloc (.cells #[a0,a1,a2,o] T)).cell? (Addr.add ⟨W.heap.size,0,none⟩ j)=some u:=by
 intro j u q;have h:=qd (Wn W (.cells #[a0,a1,a2,o] T)) j;rw[show Addr.add ⟨W.heap.size,0,none⟩ j=⟨W.heap.size,j,none⟩ by first|(simp[Addr.add];done)|(simp[Addr.add];omega),h];simpa using q
theorem qgS (h:List Int)(hh:Words 32 8 h)(w:World):
  Calls Tryz.prog 193 #[.agg (qj .u32 h)] w fun e w'=> ∃v,e= .returned v/\w'.ownsRow w.heap.size 5 1 v 32 ((qQ 4 h 8).map qp)/\Below w.heap.size w w':=by
 obtain⟨i0,hi,ab,aa,ac⟩:=info_parts Qu;obtain⟨r,Z⟩:=Ex w.heap.size;go_enter Tryz.func193,Tryz.ntmps193
 obtain⟨G,U⟩:=Ex (w.alloc (.cells (qj .u32 h) 288));have ai:G.heap.size=w.heap.size+1:=by rw[<-U];simp
 have J:Below w.heap.size w G:=by rw[<-U];exact(Below.refl w.heap.size w).alloc Nl _
 have ad:G.heap[r]? =some (.cells (qj .u32 h) 288 (0,0)):=by rw[<-U];exact qe _ _ Z.symm
 obtain⟨w1,hr,q,o⟩:=run_make_own (P:=Tryz.prog) G w.heap.size 24 5 i0 (.int .u8 0) 1 Tryz.underlying24 hi ab aa .i64 .i64 32 (by rw[ac];omega) (by unfold maxLen;omega) (by omega);have ag:(Instr.makeSlice 24 (.int .i64 0) (.int .i64 32)).run Tryz.prog G= .ok (.slice (some ⟨G.heap.size,0,none⟩) 0 32) w1:=hr;have af:w1.heap[r]? =some (.cells (qj .u32 h) 288 (0,0)):=(o.block r (by omega) (by simp)).trans ad;have Y:Below w.heap.size w w1:=J.grown o (by omega) (fun k e=>by cases e);obtain⟨bg,ae⟩:=Ex G.heap.size;have al:r<bg:=by omega
 rw[ae]at ag q;have HR:=hid af;have HB:=hid Y;have HO:=hid q;have X:=hid hh;clear hr o J ad Y q ai ae;rw[Z]at HO HB⊢;go_wp2_with ((with_reducible show wpList _ _ _ (Oper.mk _ (Op.load _ _) _ _ _ _::_) _ _);refine wpList_load_row rfl 288 _ rfl r rfl _ _ _ _ HR.out Tryz.underlying288 rfl (by rw[qg,X.out.1];kernel_rfl) ?_)
 go_loopw [3,8] (fun s i wr=> ∃(k:Nat) (v:Value),s=v/\i= .int .i64 k/\k<=8/\wr.ownsRow r 5 1 v (4*k) ((qQ 4 h k).map qp)/\Below r w wr) (fun _ i _=>8 - (intOf i).toNat)
 case atStart=>exact⟨0,_,rfl,rfl,Nat.zero_le _,HO.out,HB.out⟩
 case round=>
  obtain⟨k,v,rfl,rfl,hk,D,hb⟩:=hrel;have aj:=hb.size;by_cases S:k<8
  ·have ha:=qF (k:= .u32) X.out S;obtain⟨x,hx⟩: ∃x:Nat,(x:Int)=wd h k:=⟨(wd h k).toNat,by have:=(yK X.out S);omega⟩;rw[<-hx]at ha;have ak:(x:Int)<=4294967295:=by have:=(yK X.out S);omega
   have O:(wd h k).toNat=x:=by omega
   have q0:(x:Int)%256=byt x 0:=by have:=Zz x 0;simpa using this
   have q1:(x:Int)/256%256=byt x 1:=Zz x 1;have q2:(x:Int)/65536%256=byt x 2:=Zz x 2;have q3:(x:Int)/16777216=byt x 3:=by
    have h3:(x:Int)/16777216%256=byt x 3:=Zz x 3;rw[<-h3];omega
   have e1:(qQ 4 h (k+1)).map qp=(qQ 4 h k).map qp++[.int .u8 (byt x 0),.int .u8 (byt x 1),.int .u8 (byt x 2),.int .u8 (byt x 3)]:=by rw[qQ,List.map_append,O];rfl
   have E1:=hid e1;clear e1 hx O;go_wp2_with (at_builtin;refine wpList_append_own _ rfl _ _ 24 rfl r 5 i0 (.int .u8 0) 1 1 Tryz.underlying24 hi ab aa ac rfl (by decide) _ _ _ rfl (D.alloc _) ⟨wr.heap.size,0,none⟩ 4 4 [.int .u8 (byt x 0),.int .u8 (byt x 1),.int .u8 (byt x 2),.int .u8 (byt x 3)] rfl rfl (qgN _ _ _ _ _ _) (by simp[Value.oneCell']) (by unfold maxLen;omega) (by omega) (by simp;omega) ?_;intro v' w2 I V _;have ah:Below r w w2:=(hb.alloc (by omega) _).grown V (by simp;omega) (fun k e=>(D.lt k e).1))
   rw[<-E1.out,<-Nat.mul_succ]at I;exact⟨⟨k+1,v',rfl,rfl,by omega,I,ah⟩,by simp[intOf];omega⟩
  ·obtain rfl:k=8:=by omega
   go_wp2
   go_ret
   exact⟨_,rfl,D,hb⟩
end Go.Proofs.YtahenngmaoellaaGreat
namespace Go.Proofs.YtahenngmaoellaaGreat
open Go.ChangeShapes Go.WideShapes Go.ChangeAt Go.RowKit Go.Joins Go.Shelf Go.Maps
open Go.Lib (hid)
variable{P:Program}{B n:Nat}{ops:Array Oper}{o:Oper}{a:Act}{Q:Exit->Act->World->Prop}
attribute [local go_sem] Oper.semAt_some
def SrcIs (w:World)(x:Value)(m:Nat)(news:List Value):Prop:=
 news.length=m/\(∀u∈news,u.oneCell'=true)/\((x= .slice none 0 0/\m=0)\/ ∃ad c,x= .slice (some ad) m c/\ ∀j u,news[j]? =some u->w.cell? (ad.add j)=some u)
theorem SrcIs.below {w w':World}{x:Value}{m:Nat}{o:List Value}(h:SrcIs w x m o)(r:Below w.heap.size w w'):SrcIs w' x m o:=by
 refine⟨h.1,h.2.1,?_⟩;rcases h.2.2 with q|⟨G,c,e,q⟩
 ·exact .inl q
 ·refine .inr ⟨G,c,e,fun j u D=>?_⟩;have:=q j u D
  rw[r.cell (World.block_lt_of_cell? w _ this)];exact this
theorem qbU {w W:World}(hB:B=W.heap.size)(J:Below B W w)(t S e:TypeId)(i:TypeInfo)(z:Value)(bytes:Nat)(Y:P.underlying t=some (.slice e))(hi:P.info? e=some i)(hz:i.zero=some z)
  (I:i.size=1) (Z:i.bytes=bytes) (X:z.cells.size=1) (v:Value) (n:Nat) (xs:List Value) (o:w.ownsRow B e 1 v n xs)
  (x:Value) (m:Nat) (q:List Value) (U:SrcIs w x m q) (V:n+m<=maxLen) (r:(n+m)*bytes<=140737488355328):
  ∃v' w',(Builtin.append_ #[t,t] S #[v,x]).run P w= .ok v' w'/\w'.ownsRow B e 1 v' (n+m) (xs++q)/\Below B W w':=by
 subst hB;obtain⟨h1,h2,O⟩:=U;rcases O with⟨rfl,rfl⟩|⟨ad,c,rfl,O⟩
 ·obtain rfl:q=[]:=List.eq_nil_of_length_eq_zero h1;exact⟨v,w,run_append_owned_none w W.heap.size t S e i 1 Y hi v n xs o,by simpa using o,J⟩
 ·obtain⟨v',w',hr,G,D, -⟩:=run_append_own (P:=P) w W.heap.size t S e i z 1 bytes Y hi hz I Z X (by omega) v n xs o ad m c q (by omega) O h2 V r J.size;exact⟨v',w',hr,G,J.grown D J.size (fun k e=>(o.lt k e).1)⟩
theorem qbo {w:World}{K:Act->World->Prop}{E:Prop}(J:o.guard=none)(s x:Operand)(t:TypeId)
  (Z:o.op= .call { callee:= .builtin .append,args:= #[s,x],argTypes:= #[t,t] }) (W:World) (B:Nat) (V:B=W.heap.size) (hb:Below B W w)
  (e:TypeId) (i:TypeInfo) (z:Value) (bytes:Nat) (ht:P.underlying t=some (.slice e)) (hi:P.info? e=some i) (hz:i.zero=some z)
  (D:i.size=1) (U:i.bytes=bytes) (S:z.cells.size=1) (v:Value) (n:Nat) (xs:List Value) (hs:a.eval s=v) (G:w.ownsRow B e 1 v n xs)
  (u:Value) (m:Nat) (q:List Value) (hx:a.eval x=u) (I:SrcIs w u m q) (O:n+m<=maxLen) (r:(n+m)*bytes<=140737488355328)
  (h: ∀v' w',w'.ownsRow B e 1 v' (n+m) (xs++q)->Below B W w'->K (a.put o.dst v') w'):
  if Region.wanted o (yielded ops a.tmps)=true then Oper.wp P o a w K Q else E:=by
 have hw:Region.wanted o (yielded ops a.tmps)=true:=by simp[Region.wanted,J]
 rw[if_pos hw];obtain⟨v',w',X,h2,Y⟩:=qbU (P:=P) V hb t o.type e i z bytes ht hi hz D U S v n xs G u m q I O r;unfold Oper.wp execOp;simp only[Z,resolve,invoke,builtin,Sem.run_bind,Sem.run_pure,Result.andThen_ok,List.map_toArray,List.map_cons,List.map_nil,hs,hx,X];exact h v' w' h2 Y
theorem qfX {w:World}{e:TypeId}{v:Value}{xs:List Value}(h:w.ownsRow B e 1 v n xs)(q: ∀u∈xs,u.oneCell'=true):SrcIs w v n xs:=by
 refine⟨by have:=h.1;omega,q,?_⟩;rcases h.2 with⟨rfl,rfl⟩|⟨g,o,r,rfl, -⟩
 ·exact .inl ⟨rfl,rfl⟩
 ·exact .inr ⟨⟨g,0,none⟩,o,rfl,h.cells (g:=g) rfl⟩
theorem Qb {w:World}{l:List Oper}(G:o.guard=none)(s x:Operand)(t:TypeId)
  (Y:o.op= .call { callee:= .builtin .append,args:= #[s,x],argTypes:= #[t,t] }) (W:World) (B:Nat) (X:B=W.heap.size) (hb:Below B W w)
  (e:TypeId) (i:TypeInfo) (z:Value) (bytes:Nat) (ht:P.underlying t=some (.slice e)) (hi:P.info? e=some i) (Z:i.zero=some z)
  (D:i.size=1) (V:i.bytes=bytes) (S:z.cells.size=1) (v:Value) (n:Nat) (xs:List Value) (hs:a.eval s=v) (I:w.ownsRow B e 1 v n xs)
  (u:Value) (m:Nat) (q:List Value) (hx:a.eval x=u) (J:SrcIs w u m q) (O:n+m<=maxLen) (r:(n+m)*bytes<=140737488355328)
  (h: ∀v' w',w'.ownsRow B e 1 v' (n+m) (xs++q)->Below B W w'->wpList P ops Q l (a.put o.dst v') w'):wpList P ops Q (o::l) a w:=by
 have U:Region.wanted o (yielded ops a.tmps)=true:=by simp[Region.wanted,G]
 unfold wpList;rw[if_pos U];refine .inl ?_;have H:=qbo (ops:=ops) (K:=wpList P ops Q l) (Q:=Q) (E:=True) G s x t Y W B X hb e i z bytes ht hi Z D V S v n xs hs I u m q hx J O r h;rw[if_pos U]at H;exact H
def Qp (zs:List Int):Nat->Nat
 | 0=>0
 | k+1=>if qo zs k=0 then Qp zs k else k+1
theorem jl (zs:List Int): ∀k,Qp zs k<=k
 | 0=>Nat.le_refl _
 | k+1=>by
  unfold Qp;split
  ·exact Nat.le_succ_of_le (jl zs k)
  ·exact Nat.le_refl _
theorem qbL (zs:List Int): ∀k j,Qp zs k<=j->j<k->qo zs j=0
 | 0,j,_,h=>by omega
 | k+1,j,h1,h2=>by
  unfold Qp at h1;split at h1
  ·rename_i h;by_cases e:j=k
   ·rw[e];exact h
   ·exact qbL zs k j h1 (by omega)
  ·omega
theorem qex {w:World}{b off o:Nat}{zs:List Int}(h:Qy w b off zs)(G:n<=zs.length):SrcIs w (.slice (some ⟨b,off,none⟩) n o) n ((zs.take n).map qp):=by
 refine⟨by simp;omega,?_,.inr ⟨⟨b,off,none⟩,o,rfl,?_⟩⟩
 ·intro u r;obtain⟨z, -,rfl⟩:=List.mem_map.1 r;rfl
 ·intro j u D;obtain⟨q,rfl⟩:=List.getElem?_eq_some_iff.1 D;simp at q
  rw[Go.WideShapes.add_plain,h.2 j (by omega)];simp[qp,qo,Lg,show j<zs.length by omega]
theorem qbK (zs:List Int)(b off r:Nat)(w:World)(U:Qy w b off zs)(aa:zs.length<=r)(hm:zs.length<=4294967296):
  Calls Tryz.prog 166 #[.slice (some ⟨b,off,none⟩) zs.length r] w fun e w'=> ∃v',e= .returned v'/\w'.ownsRow w.heap.size 5 1 v' (Qp zs zs.length) ((zs.take (Qp zs zs.length)).map qp)/\Below w.heap.size w w':=by
 obtain⟨i0,hi,J,I,S⟩:=info_parts Qu;obtain⟨h1,Z⟩:=id U;have HC:=hid Z;have Y:=hid U;clear Z U;go_enter Tryz.func166,Tryz.ntmps166
 go_wp2_with fail
 go_loopw [3] (fun i wr=> ∃k:Nat,i= .int .i64 k/\wr=w/\k<=zs.length/\Qp zs k=Qp zs zs.length) (fun i _=>(intOf i).toNat)
 case atStart=>exact⟨zs.length,rfl,rfl,Nat.le_refl _,rfl⟩
 case round=>
  obtain⟨k,rfl,rfl,hk,O⟩:=hrel;have X:=hid O;clear O
  cases k with
  | zero=>
   have k5:(0:Int)<=r:=by omega
   have hN:=jl zs zs.length;have V:=hid (show Qp zs zs.length=0 from X.out.symm);go_wp2_with (at_builtin;refine Qb rfl _ _ _ rfl wr wr.heap.size rfl (by repeat(first|exact Below.refl _ _|refine Below.drew ?_)) 5 i0 (.int .u8 0) 1 Tryz.underlying24 hi J I S rfl _ 0 [] rfl (Wo _ _ _ _) _ 0 _ rfl (qex (n:=0) Y.out (by omega)) (by unfold maxLen;omega) (by omega) ?_;intro v' w2 o G)
   go_ret
   refine⟨_,rfl,?_,G⟩;rw[V.out];exact o
  | succ j=>
   have hc:=HC.out j (by omega);have k1:((j+1:Nat):Int) - 1=(j:Nat):=by omega
   have k2:0<=(j:Int)/\(j:Int)<4294967296:=by omega
   obtain⟨k3,k4⟩:=k2;have k5:(j:Int)+1<=r:=by omega
   by_cases D:qo zs j=0
   ·rw[D]at hc;go_wp2
    exact⟨⟨j,rfl,by trivial,by omega,by rw[<-X.out];simp[Qp,D]⟩,by simp[intOf]⟩
   ·have V:=hid (show j+1=Qp zs zs.length by rw[<-X.out];simp[Qp,D]);have q:=beq_eq_false_iff_ne.2 D;have q2:(qo zs j==0)=false:=q;generalize qo zs j=z at hc D q q2;clear q D;go_wp2_with (at_builtin;refine Qb rfl _ _ _ rfl wr wr.heap.size rfl (by repeat(first|exact Below.refl _ _|refine Below.drew ?_)) 5 i0 (.int .u8 0) 1 Tryz.underlying24 hi J I S rfl _ 0 [] rfl (Wo _ _ _ _) _ (j+1) _ rfl (qex (n:=j+1) Y.out (by omega)) (by unfold maxLen;omega) (by omega) ?_;intro v' w2 o G)
    go_ret
    refine⟨_,rfl,?_,G⟩;rw[<-V.out];simpa using o
theorem Jv (zs:List Int)(b off S:Nat)(w:World)(Y:Qy w b off zs)(ai:zs.length<=S)(hm:zs.length<=4294967296):
  Calls Tryz.prog 195 #[.slice (some ⟨b,off,none⟩) zs.length S] w fun e w'=> ∃v',e= .returned v'/\w'.ownsRow w.heap.size 5 1 v' (Qp zs zs.length) ((zs.take (Qp zs zs.length)).map qp)/\Below w.heap.size w w':=by
 obtain⟨i0,hi,af,ac,ag⟩:=info_parts Qu;obtain⟨h1,h2⟩:=id Y;have Z:=hid h2;have HB:=hid Y;obtain⟨N,hN⟩:=Ex (Qp zs zs.length);have aa:=jl zs zs.length;rw[hN]at aa⊢;have HN:=hid hN;clear h2 Y hN;go_enter Tryz.func195,Tryz.ntmps195
 go_wp2_with fail
 go_loopw [3] (fun i wr=> ∃k:Nat,i= .int .i64 k/\w=wr/\k<=zs.length/\Qp zs k=N) (fun i _=>(intOf i).toNat)
 case atStart=>exact⟨zs.length,rfl,rfl,Nat.le_refl _,HN.out⟩
 case round=>
  obtain⟨k,rfl,rfl,hk,V⟩:=hrel;have HE:=hid V;clear V;by_cases I: ∃j,k=j+1/\qo zs j=0
  ·obtain⟨j,rfl,hj⟩:=I;have hc:=Z.out j (by omega);have k1:((j+1:Nat):Int) - 1=(j:Nat):=by omega
   have k3:0<=(j:Int):=by omega
   have k4:(j:Int)<4294967296:=by omega
   rw[hj]at hc;go_wp2
   exact⟨⟨j,rfl,by trivial,by omega,by rw[<-HE.out];simp[Qp,hj]⟩,by simp[intOf]⟩
  ·have ek:k=N:=by
    rw[<-HE.out]
    cases k with
    | zero=>rfl
    | succ j=>simp only[Qp];rw[if_neg (fun h=>I ⟨j,rfl,h⟩)]
   have ad:k=0\/ ∃j z,k=j+1/\w.cell? ⟨b,off+j,none⟩=some (.int .u8 z)/\(z==0)=false:=by
    cases k with
    | zero=>exact .inl rfl
    | succ j=>exact .inr ⟨j,qo zs j,rfl,Z.out j (by omega),beq_eq_false_iff_ne.2 (fun h=>I ⟨j,rfl,h⟩)⟩
   clear I;subst ek;rcases ad with D|⟨j,z,D,hc,hq⟩
   case inl=>
    subst D;go_wp2_with fail
    go_loopw [4,5] (fun o i J=> ∃(m:Nat) (v:Value),o=v/\i= .int .i64 m/\m<=0/\J.ownsRow w.heap.size 5 1 v m ((zs.take m).map qp)/\Below w.heap.size w J) (fun _ i _=>0 - (intOf i).toNat)
    case atStart=>exact⟨0,_,rfl,rfl,by omega,Wo _ _ _ _,Below.refl _ _⟩
    case round=>
     obtain⟨i,v,rfl,rfl,ah,q,r⟩:=hrel;have U:=r.size;by_cases X:i<0
     ·exact absurd X (by omega)
     ·obtain rfl:i=0:=by omega
      go_wp2
      go_ret
      exact⟨_,rfl,q,r⟩
   case inr=>
    have HK:=hid D;have k1:((j+1:Nat):Int) - 1=(j:Nat):=by omega
    have k3:0<=(j:Int):=by omega
    have k4:(j:Int)<4294967296:=by omega
    subst D;go_wp2_with fail
    go_loopw [4,5] (fun o i J=> ∃(m:Nat) (v:Value),o=v/\i= .int .i64 m/\m<=j+1/\J.ownsRow w.heap.size 5 1 v m ((zs.take m).map qp)/\Below w.heap.size w J) (fun _ i _=>j+1 - (intOf i).toNat)
    case atStart=>exact⟨0,_,rfl,rfl,by omega,Wo _ _ _ _,Below.refl _ _⟩
    case round=>
     clear hc hq k1 k3 k4;obtain⟨i,v,rfl,rfl,ah,q,r⟩:=hrel;have U:=r.size;by_cases X:i<j+1
     ·have ae:=(r.cell (p:=⟨b,off+i,none⟩) h1).trans (Z.out i (by omega));have e1:=hid (show(zs.take (i+1)).map qp=(zs.take i).map qp++[.int .u8 (qo zs i)] by
       rw[List.take_add_one,List.map_append];simp[qo,Lg,show i<zs.length by omega,qp])
      generalize qo zs i=y at ae e1;go_wp2_with (at_builtin;refine wpList_append_own _ rfl _ _ 24 rfl w.heap.size 5 i0 (.int .u8 0) 1 1 Tryz.underlying24 hi af ac ag rfl (by decide) _ _ _ rfl (q.alloc _) ⟨wr.heap.size,0,none⟩ 1 1 [.int .u8 y] rfl rfl (cell_one_new _ _ _) (by simp[Value.oneCell']) (by unfold maxLen;omega) (by omega) (by simp;omega) ?_;intro v' w2 G O _;have ab:Below w.heap.size w w2:=(r.alloc U _).grown O (by simp;omega) (fun k e=>(q.lt k e).1))
      rw[<-e1.out]at G;exact⟨⟨i+1,v',rfl,rfl,by omega,G,ab⟩,by simp[intOf];omega⟩
     ·obtain rfl:i=j+1:=by omega
      go_wp2
      go_ret
      exact⟨_,rfl,q,r⟩
theorem qc9 (big:Bool)(a:Option Addr)(n r:Nat)(w:World):
  Calls Tryz.prog 134 #[.int .i64 (kB big),.slice a n r] w fun e w'=>(∃x,e= .returned (.int .i64 x)/\(x=0↔n=mB big))/\w'=w:=by
 have o:=jt big
 cases big
 case' false=>
  change ∀w:World,Calls Tryz.prog 133 #[.int .i64 2] w fun e w'=>e= .returned (.tuple #[.int .i64 32,.int .i64 32,.int .i64 8])/\w'=w at o
  change Calls _ _ #[.int .i64 2,_] _ fun e w'=>(∃x,e= .returned (.int .i64 x)/\(x=0↔n=32))/\_
  obtain⟨N,q⟩: ∃N:Nat,N=32:=⟨_,rfl⟩
 case' true=>
  change ∀w:World,Calls Tryz.prog 133 #[.int .i64 1] w fun e w'=>e= .returned (.tuple #[.int .i64 64,.int .i64 64,.int .i64 16])/\w'=w at o
  change Calls _ _ #[.int .i64 1,_] _ fun e w'=>(∃x,e= .returned (.int .i64 x)/\(x=0↔n=64))/\_
  obtain⟨N,q⟩: ∃N:Nat,N=64:=⟨_,rfl⟩
 all_goals
  by_cases D:n<N
  case' neg=>by_cases G:N<n
  all_goals
   subst q;go_enter Tryz.func134,Tryz.ntmps134
   go_wp2_with fail
   refine(o _).mono ?_;rintro e w1 ⟨rfl,rfl⟩;go_wp2_with fail
   go_ret
   exact⟨⟨_,rfl,by omega⟩,rfl⟩
theorem qc3 (big:Bool)(a:Option Addr)(n D:Nat)(w:World):
  Calls Tryz.prog 178 #[.int .i64 (kB big),.slice a n D] w fun e w'=>(∃x,e= .returned (.int .i64 x)/\(x=0↔n=mB big))/\w'=w:=by
 have q:=YM big;have o:=JI big
 cases big
 case' false=>
  change ∀w:World,Calls Tryz.prog 173 #[.int .i64 2] w fun e w'=>e= .returned (.int .i64 32)/\w'=w at q
  change ∀w:World,Calls Tryz.prog 170 #[.int .i64 2] w fun e w'=>e= .returned (.int .i64 32)/\w'=w at o
  change Calls _ _ #[.int .i64 2,_] _ fun e w'=>(∃x,e= .returned (.int .i64 x)/\(x=0↔n=32))/\_
  obtain⟨N,r⟩: ∃N:Nat,N=32:=⟨_,rfl⟩
 case' true=>
  change ∀w:World,Calls Tryz.prog 173 #[.int .i64 1] w fun e w'=>e= .returned (.int .i64 64)/\w'=w at q
  change ∀w:World,Calls Tryz.prog 170 #[.int .i64 1] w fun e w'=>e= .returned (.int .i64 64)/\w'=w at o
  change Calls _ _ #[.int .i64 1,_] _ fun e w'=>(∃x,e= .returned (.int .i64 x)/\(x=0↔n=64))/\_
  obtain⟨N,r⟩: ∃N:Nat,N=64:=⟨_,rfl⟩
 all_goals
  by_cases G:n<N
  case' neg=>by_cases I:N<n
  all_goals
   subst r;go_enter Tryz.func178,Tryz.ntmps178
   go_wp2_with fail
   refine(q _).mono ?_;rintro e w1 ⟨rfl,rfl⟩;go_wp2_with fail
   refine(o _).mono ?_;rintro e w1 ⟨rfl,rfl⟩;go_wp2_with fail
   try(refine(o _).mono ?_;rintro e w1 ⟨rfl,rfl⟩;go_wp2_with fail)
   go_ret
   exact⟨⟨_,rfl,by omega⟩,rfl⟩
def atB (big:Bool):Nat->Nat
 | 1=>0|2=>1|3=>2|4=>3|5=>4|6=>8|7=>12
 | 8=>cond big 16 14
 | _=>cond big 17 15
def szB (big:Bool):Nat->Nat
 | 5=>4
 | 6=>cond big 8 6
 | 7=>cond big 4 2
 | _=>1
theorem Jd (big:Bool)(f:Nat)(o:1<=f/\f<=9)(w:World):
  Calls Tryz.prog 171 #[.int .i64 (kB big),.int .i64 f] w fun e w'=>e= .returned (.tuple #[.int .i64 (atB big f),.int .i64 (szB big f)])/\w'=w:=by
 have h:f=1\/f=2\/f=3\/f=4\/f=5\/f=6\/f=7\/f=8\/f=9:=by omega
 clear o;rcases h with rfl|rfl|rfl|rfl|rfl|rfl|rfl|rfl|rfl<;>cases big<;>
 ·simp only[kB,atB,szB,cond];go_enter Tryz.func171,Tryz.ntmps171
  go_wp2
  exact Bp (results_tmp2 (fn:=Tryz.f171) (t:=4) (u:=5) rfl _ _ _) rfl ⟨rfl,rfl⟩
def qky (big:Bool)(w:World)(b:Nat):Prop:=b<w.heap.size/\ ∀f,1<=f->f<=9->w.cell? ⟨b,(f - 1)*5,none⟩=some (.int .i64 f)/\w.cell? ⟨b,(f - 1)*5+1,none⟩=some (.int .i64 (atB big f))/\w.cell? ⟨b,(f - 1)*5+2,none⟩=some (.int .i64 (szB big f))
theorem qaa:(Tryz.prog.info? 225).map (fun i=>(i.zero,i.size,i.bytes))=some (some (.agg #[.int .i64 0,.int .i64 0,.int .i64 0,.string ⟨#[]⟩,.int .i64 0]),5,48):=by kernel_rfl
theorem qg3 (big:Bool)(w:World):
  Calls Tryz.prog 135 #[.int .i64 (kB big)] w fun e w'=>(∃b,e= .returned (.slice (some ⟨b,0,none⟩) 9 9)/\w.heap.size<=b/\qky big w' b)/\Below w.heap.size w w':=by
 cases hie:Tryz.prog.info? 225 with
 | none=>have:=qaa;rw[hie]at this;cases this
 | some ie=>
 have hi:=qaa;rw[hie]at hi;simp only[Option.map_some,Option.some.injEq,Prod.mk.injEq]at hi;obtain⟨q,o, -⟩:=hi
 cases big<;>
 ·simp only[kB,cond];go_enter Tryz.func135,Tryz.ntmps135
  go_wp2_with ((with_reducible show wpList _ _ _ (Oper.mk _ (Op.buildSlice _ _ _) _ _ _ _::_) _ _);refine wpList_buildSlice rfl 221 225 9 _ rfl rowCells ie _ Tryz.underlying221 hie q (by rw[o];decide) (by rw[o];decide) (by rw[o];rfl) ?_)
  go_ret
  refine⟨⟨_,rfl,Nat.le_refl _,by simp,fun f r D=>?_⟩,Br.alloc Nl _⟩;have h:f=1\/f=2\/f=3\/f=4\/f=5\/f=6\/f=7\/f=8\/f=9:=by omega
  rcases h with rfl|rfl|rfl|rfl|rfl|rfl|rfl|rfl|rfl<;>exact⟨(qd (Wn w _) _).trans rfl,(qd (Wn w _) _).trans rfl,(qd (Wn w _) _).trans rfl⟩
