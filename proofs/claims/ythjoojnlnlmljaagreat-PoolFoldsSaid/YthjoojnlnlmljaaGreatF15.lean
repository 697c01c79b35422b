/- A block's words, by the program and by the reference: the big kind. No condition. -/
import Derived.Test.YthjoojnlnlmljaaGreatF05
import Derived.Test.YthjoojnlnlmljaaGreatF14
import Derived.Laws.MakeOwn
import Derived.Test.YthjoojnlnlmljaaGreatF07
import Derived.Deep.RegionHeld3
import Derived.Laws.AppendOwnNone
set_option linter.all false
set_option maxRecDepth 100000
set_option maxHeartbeats 8000000
namespace Go.Proofs.YthjoojnlnlmljaaGreat
open Go.ChangeShapes Go.WideShapes Go.ChangeAt Go.RowKit Go.Joins Go.Shelf Go.Maps
open Go.Lib (hid)
attribute [local go_sem] Oper.semAt_some
def QM (n c:Nat)(zs:List Int):List Int:=(List.range c).map fun i=>Qa zs (n*i) n
def yt (n c:Nat)(zs:List Int):Nat→List Int
 | 0=>List.replicate c 0
 | j+1=>(yt n c zs j).set j (Qa zs (n*j) n)
theorem yo (n c:Nat)(zs:List Int): ∀j,(yt n c zs j).length=c
 | 0=>by simp[yt]
 | j+1=>by simp[yt,yo n c zs j]
theorem qdG (n c:Nat)(zs:List Int): ∀j i,i<j→i<c→(yt n c zs j)[i]? =some (Qa zs (n*i) n)
 | j+1,i,h,hc=>by
  simp only[yt];by_cases e:i=j
  ·subst e;rw[List.getElem?_set_self (by rw[yo];exact hc)]
  ·rw[List.getElem?_set_ne (Ne.symm e)];exact qdG n c zs j i (by omega) hc
theorem jf (n c:Nat)(zs:List Int):yt n c zs c=QM n c zs:=by
 apply List.ext_getElem?
 intro i;by_cases h:i<c
 ·rw[qdG n c zs c i h h];simp[QM,h]
 ·rw[List.getElem?_eq_none (by rw[yo];omega),List.getElem?_eq_none (by simp[QM];omega)]
theorem Q5 (n c:Nat){zs:List Int}(q: ∀z∈zs,0≤z∧z≤255)(G:zs.length=n*c):Words (8*n) c (QM n c zs):=by
 refine⟨by simp[QM],fun x o=>?_⟩;simp only[QM,List.mem_map,List.mem_range]at o;obtain⟨i,D,rfl⟩:=o;have:n*i+n≤n*c:=by
  rw[←Nat.mul_succ];exact Nat.mul_le_mul_left n D
 exact QB q n (by omega)
theorem Holds8.slice {w:World}{v:Value}{zs:List Int}(h:Holds8 w v zs): ∃a o,v= .slice a zs.length o:=by
 obtain⟨a,o,e, -⟩:=h;exact⟨a,o,e⟩
theorem qaX (zs:List Int)(v:Value)(at_:Nat)(w:World)(h:Holds8 w v zs)(o: ∀z∈zs,0≤z∧z≤255)(q:at_+8≤zs.length)(D:zs.length≤4294967296):
  Calls Tryz.prog 90 #[v,.int .i64 (at_:Nat)] w fun e w'=>e= .returned (.tuple #[.int .u64 (Qa zs at_ 8),.int .i64 0])∧w'=w:=by
 have H:=hid (qf9 zs v at_ w h o q D);go_enter Tryz.func90,Tryz.ntmps90
 go_wp2_with fail
 refine H.out.mono ?_;rintro e G ⟨rfl,rfl⟩;go_wp2
 exact Bp (results_tmp2 rfl _ _ _) rfl ⟨rfl,rfl⟩
theorem qd4 (zs:List Int)(v:Value)(w:World)(h:Holds8 w v zs)(hz: ∀z∈zs,0≤z∧z≤255)(X:zs.length=128):
  Calls Tryz.prog 198 #[v] w fun e w'=>e= .returned (.tuple #[.agg (qg .u64 (QM 8 16 zs)),.int .i64 0])∧Below w.heap.size w w':=by
 obtain⟨a,ac,rfl⟩:=h.slice;obtain⟨D,Z⟩:=Ex w.heap.size;have H:=hid h;have Y:=hid hz;have V:=hid X;rw[X]at H⊢;clear h hz X;go_enter Tryz.func198,Tryz.ntmps198
 go_wp2_with fail
 refine qj ?_;intro W G;have hr:W.heap[D]? =some (.cells #[.int .u64 0,.int .u64 0,.int .u64 0,.int .u64 0,.int .u64 0,.int .u64 0,.int .u64 0,.int .u64 0,.int .u64 0,.int .u64 0,.int .u64 0,.int .u64 0,.int .u64 0,.int .u64 0,.int .u64 0,.int .u64 0] 252 (0,0)):=by
  rw[G];exact(Bh _ _ _ (by simp;omega)).trans (qc _ _ Z.symm)
 have q:W.heap[D+1]? =some (.cells (qg .u64 (yt 8 16 zs 0)) 252 (0,0)):=by
  rw[G];exact qc _ _ (by simp;omega)
 have I:Below w.heap.size w W:=by
  rw[G];exact((Below.refl w.heap.size w).alloc Nl _).alloc (by simp) _
 have af:D+1<W.heap.size:=(Ai q).1;clear G;have HR:=hid hr;have HV:=hid q;have HB:=hid I;clear hr q I;go_loopw [10] (fun i wr=> ∃j:Nat,i= .int .i64 j∧j≤16∧wr.heap[D+1]? =some (.cells (qg .u64 (yt 8 16 zs j)) 252 (0,0))∧But (D+1) W wr) (fun i _=>16 - (intOf i).toNat)
 case atStart=>exact⟨0,rfl,Nat.zero_le _,HV.out,But.refl _ _⟩
 case round=>
  obtain⟨j,rfl,hj,q,I⟩:=hrel;have ad:=I.size;have S:=hid q;have ab:=hid I;have U:=hid (HB.out.trans (I.below (by omega) HB.out.size));by_cases ae:j<16
  ·have c2:wr.cell? ⟨D+1,j,none⟩=some (.int .u64 (wd (yt 8 16 zs j) j)):=(qm q _).trans (yd (yo _ _ _ _) (by omega));have f2: ∀o,wr.frozen? ⟨D+1,o,none⟩=false:=(qK q).2;have e8:IntKind.i64.wrap (8*(j:Int))=((8*j:Nat):Int):=by rw[IntKind.wrap_i64];omega
   have J:=hid (qaX zs (.slice a 128 ac) (8*j) wr (qW H.out U.out) Y.out (by have:=V.out;omega) (by have:=V.out;omega));have e9:((8*j:Nat):Int)=8*(j:Int):=by omega
   have aa:8*(j:Int)≤128:=by omega
   rw[e9]at J;clear q I e8 e9;go_wp2_with fail
   refine J.out.mono ?_;rintro e2 w2 ⟨rfl,rfl⟩;go_wp2
   exact⟨⟨j+1,rfl,by omega,by rw[yt,←qY];exact block_setCell S.out _,ab.out.set _ _⟩,by simp[intOf];omega⟩
  ·obtain rfl:j=16:=by omega
   have G:=Q5 8 16 Y.out V.out;have O:=(I.block D (by omega) (by omega)).trans HR.out;rw[jf]at q;clear I S;go_wp2_with ((with_reducible show wpList _ _ _ (Oper.mk (some 23) _ _ _ _ _::_) _ _);refine wpList_load_row rfl 252 _ rfl (D+1) rfl _ _ _ _ q Tryz.underlying252 rfl (by rw[qd,G.1];kernel_rfl) ?_;refine wpList_store_row rfl 252 _ _ rfl D (qg .u64 (QM 8 16 zs)) rfl rfl 252 _ O (by rw[qd,G.1];kernel_rfl) (by rw[qd,G.1];rfl) qw ?_)
   exact Bp (qC rfl _ _ _ _ _ _ _ rfl (setRow_heap _ _ _ _ _ _ O) Tryz.underlying252 rfl (by rw[qd,G.1];kernel_rfl)) rfl ⟨rfl,below_setRow (U.out.mono (by omega)) (by omega) _⟩
theorem qbs (zs:List Int)(v:Value)(w:World)(h:Holds8 w v zs)(hz: ∀z∈zs,0≤z∧z≤255)(X:zs.length=128):
  Calls Tryz.prog 193 #[v] w fun e w'=>e= .returned (.tuple #[.agg (qg .u64 (QM 8 16 zs)),.int .i64 0])∧Below w.heap.size w w':=by
 obtain⟨a,ac,rfl⟩:=h.slice;obtain⟨D,Z⟩:=Ex w.heap.size;have H:=hid h;have Y:=hid hz;have V:=hid X;rw[X]at H⊢;clear h hz X;go_enter Tryz.func193,Tryz.ntmps193
 go_wp2_with fail
 refine qj ?_;intro W G;have hr:W.heap[D]? =some (.cells #[.int .u64 0,.int .u64 0,.int .u64 0,.int .u64 0,.int .u64 0,.int .u64 0,.int .u64 0,.int .u64 0,.int .u64 0,.int .u64 0,.int .u64 0,.int .u64 0,.int .u64 0,.int .u64 0,.int .u64 0,.int .u64 0] 252 (0,0)):=by
  rw[G];exact(Bh _ _ _ (by simp;omega)).trans (qc _ _ Z.symm)
 have q:W.heap[D+1]? =some (.cells (qg .u64 (yt 8 16 zs 0)) 252 (0,0)):=by
  rw[G];exact qc _ _ (by simp;omega)
 have I:Below w.heap.size w W:=by
  rw[G];exact((Below.refl w.heap.size w).alloc Nl _).alloc (by simp) _
 have af:D+1<W.heap.size:=(Ai q).1;clear G;have HR:=hid hr;have HV:=hid q;have HB:=hid I;clear hr q I;go_loopw [5] (fun i wr=> ∃j:Nat,i= .int .i64 j∧j≤16∧wr.heap[D+1]? =some (.cells (qg .u64 (yt 8 16 zs j)) 252 (0,0))∧But (D+1) W wr) (fun i _=>16 - (intOf i).toNat)
 case atStart=>exact⟨0,rfl,Nat.zero_le _,HV.out,But.refl _ _⟩
 case round=>
  obtain⟨j,rfl,hj,q,I⟩:=hrel;have ad:=I.size;have S:=hid q;have ab:=hid I;have U:=hid (HB.out.trans (I.below (by omega) HB.out.size));by_cases ae:j<16
  ·have c2:wr.cell? ⟨D+1,j,none⟩=some (.int .u64 (wd (yt 8 16 zs j) j)):=(qm q _).trans (yd (yo _ _ _ _) (by omega));have f2: ∀o,wr.frozen? ⟨D+1,o,none⟩=false:=(qK q).2;have e8:IntKind.i64.wrap (8*(j:Int))=((8*j:Nat):Int):=by rw[IntKind.wrap_i64];omega
   have J:=hid (qaJ zs (.slice a 128 ac) (8*j) wr (qW H.out U.out) Y.out (by have:=V.out;omega) (by have:=V.out;omega));have e9:((8*j:Nat):Int)=8*(j:Int):=by omega
   have aa:8*(j:Int)≤128:=by omega
   rw[e9]at J;clear q I e8 e9;go_wp2_with fail
   refine J.out.mono ?_;rintro e2 w2 ⟨rfl,rfl⟩;go_wp2
   exact⟨⟨j+1,rfl,by omega,by rw[yt,←qY];exact block_setCell S.out _,ab.out.set _ _⟩,by simp[intOf];omega⟩
  ·obtain rfl:j=16:=by omega
   have G:=Q5 8 16 Y.out V.out;have O:=(I.block D (by omega) (by omega)).trans HR.out;rw[jf]at q;clear I S;go_wp2_with ((with_reducible show wpList _ _ _ (Oper.mk (some 23) _ _ _ _ _::_) _ _);refine wpList_load_row rfl 252 _ rfl (D+1) rfl _ _ _ _ q Tryz.underlying252 rfl (by rw[qd,G.1];kernel_rfl) ?_;refine wpList_store_row rfl 252 _ _ rfl D (qg .u64 (QM 8 16 zs)) rfl rfl 252 _ O (by rw[qd,G.1];kernel_rfl) (by rw[qd,G.1];rfl) qw ?_)
   exact Bp (qC rfl _ _ _ _ _ _ _ rfl (setRow_heap _ _ _ _ _ _ O) Tryz.underlying252 rfl (by rw[qd,G.1];kernel_rfl)) rfl ⟨rfl,below_setRow (U.out.mono (by omega)) (by omega) _⟩
def yx (L:List Int)(f:Nat→Int):Nat→List Int
 | 0=>L
 | j+1=>(yx L f j).set j (f j)
theorem yb (L:List Int)(f:Nat→Int): ∀j,(yx L f j).length=L.length
 | 0=>rfl
 | j+1=>by simp[yx,yb L f j]
theorem qdH (L:List Int)(f:Nat→Int): ∀j i,i<j→i<L.length→(yx L f j)[i]? =some (f i)
 | j+1,i,h,hc=>by
  simp only[yx];by_cases e:i=j
  ·subst e;rw[List.getElem?_set_self (by rw[yb];exact hc)]
  ·rw[List.getElem?_set_ne (Ne.symm e)];exact qdH L f j i (by omega) hc
theorem Yb (L:List Int)(f:Nat→Int): ∀j i,j≤i→wd (yx L f j) i=wd L i
 | 0,i,_=>rfl
 | j+1,i,h=>by
  have o:=Yb L f j i (by omega);simp only[yx];unfold wd at*;rw[Lg,List.getElem?_set_ne (by omega),←Lg];exact o
theorem jg (L:List Int)(f:Nat→Int):yx L f L.length=(List.range L.length).map f:=by
 apply List.ext_getElem?
 intro i;by_cases h:i<L.length
 ·rw[qdH L f _ i h h];simp[h]
 ·rw[List.getElem?_eq_none (by rw[yb];omega),List.getElem?_eq_none (by simp;omega)]
def Yh (k:IntKind)(iv:List Int)(n:Nat)(zs:List Int)(i:Nat):Int:=bits .xor k (wd iv i) (Qa zs (n*i) n)
def yh (k:IntKind)(iv:List Int)(n:Nat)(zs:List Int):List Int:=(List.range 8).map (Yh k iv n zs)
theorem Yg {k:IntKind}{N:Nat}(D: ∀z,k.wrap z=z%2^N)(q:List Int)(n:Nat)(zs:List Int):Words N 8 (yh k q n zs):=by
 refine⟨by simp[yh],fun x o=>?_⟩;simp only[yh,List.mem_map,List.mem_range]at o;obtain⟨i,G,rfl⟩:=o;exact qT _ _ _ D _ _
theorem qeg (zs:List Int)(v:Value)(w:World)(h:Holds8 w v zs)(hz: ∀z∈zs,0≤z∧z≤255)(hl:zs.length=64):
  Calls Tryz.prog 183 #[v] w fun e w'=>e= .returned (.tuple #[.agg (qg .u64 (yh .u64 IVb 8 zs)),.int .i64 0])∧Below w.heap.size w w':=by
 obtain⟨a,ag,rfl⟩:=h.slice;obtain⟨O,ac⟩:=Ex w.heap.size;have H:=hid h;have HZ:=hid hz;have HL:=hid hl;rw[hl]at H⊢;clear h hz hl;go_enter Tryz.func183,Tryz.ntmps183
 go_wp2_with fail
 refine(qfr _).mono ?_;rintro e1 w1 ⟨rfl,J⟩;have ab:=(J.block O (by simp;omega)).trans (qc _ _ ac.symm);have ae:O+1≤w1.heap.size:=by have:=J.size;simp at this;omega
 have aa:Below w.heap.size w w1:=((Below.refl w.heap.size w).alloc Nl _).trans (J.mono (by simp));clear J;go_wp2_with fail
 refine qj ?_;intro W D;obtain⟨I,S⟩:=Ex w1.heap.size;have hr:W.heap[O]? =some (.cells #[.int .u64 0,.int .u64 0,.int .u64 0,.int .u64 0,.int .u64 0,.int .u64 0,.int .u64 0,.int .u64 0] 274 (0,0)):=by
  rw[D];exact(Bh _ _ _ (by omega)).trans ab
 have q:W.heap[I]? =some (.cells (qg .u64 (yx IVb (Yh .u64 IVb 8 zs) 0)) 274 (0,0)):=by
  rw[D];exact qc _ _ S.symm
 have G:Below w.heap.size w W:=by
  rw[D];exact aa.alloc (by omega) _
 rw[S];have ak:O+1≤I:=by omega
 clear D ab ae aa S;have aj:I<W.heap.size:=(Ai q).1;have HR:=hid hr;have HV:=hid q;have HB:=hid G;clear hr q G;go_loopw [13] (fun i wr=> ∃j:Nat,i= .int .i64 j∧j≤8∧wr.heap[I]? =some (.cells (qg .u64 (yx IVb (Yh .u64 IVb 8 zs) j)) 274 (0,0))∧But I W wr) (fun i _=>8 - (intOf i).toNat)
 case atStart=>exact⟨0,rfl,Nat.zero_le _,HV.out,But.refl _ _⟩
 case round=>
  obtain⟨j,rfl,hj,q,G⟩:=hrel;have ah:=G.size;have Y:=hid q;have af:=hid G;have Z:=hid (HB.out.trans (G.below (by omega) HB.out.size));have al:I<wr.heap.size:=(Ai q).1;by_cases ai:j<8
  ·have c2:wr.cell? ⟨I,j,none⟩=some (.int .u64 (wd IVb j)):=by
    rw[qm q,yd (n:=8) (by rw[yb];rfl) (by omega),Yb _ _ _ _ Nl]
   have f2: ∀o,wr.frozen? ⟨I,o,none⟩=false:=(qK q).2;have e8:IntKind.i64.wrap (8*(j:Int))=((8*j:Nat):Int):=by rw[IntKind.wrap_i64];omega
   have V:=hid (qaX zs (.slice a 64 ag) (8*j) wr (qW H.out Z.out) HZ.out (by have:=HL.out;omega) (by have:=HL.out;omega));have e9:((8*j:Nat):Int)=8*(j:Int):=by omega
   have ad:8*(j:Int)≤64:=by omega
   rw[e9]at V;clear q G e8 e9;go_wp2_with fail
   refine V.out.mono ?_;rintro e2 w2 ⟨rfl,rfl⟩;go_wp2
   exact⟨⟨j+1,rfl,by omega,by rw[yx,←qY];exact block_setCell Y.out _,af.out.set _ _⟩,by simp[intOf];omega⟩
  ·obtain rfl:j=8:=by omega
   have D:=Yg (k:= .u64) (N:=64) (fun z=>IntKind.wrap_u64 z) IVb 8 zs;have X:=(G.block O (by omega) (by omega)).trans HR.out;have U:(yx IVb (Yh .u64 IVb 8 zs) 8)=yh .u64 IVb 8 zs:=jg _ _;rw[U]at q;clear G Y U;go_wp2_with ((with_reducible show wpList _ _ _ (Oper.mk (some 30) _ _ _ _ _::_) _ _);refine wpList_load_row rfl 274 _ rfl I rfl _ _ _ _ q Tryz.underlying274 rfl (by rw[qd,D.1];kernel_rfl) ?_;refine wpList_store_row rfl 274 _ _ rfl O (qg .u64 (yh .u64 IVb 8 zs)) rfl rfl 274 _ X (by rw[qd,D.1];kernel_rfl) (by rw[qd,D.1];rfl) qw ?_)
   exact Bp (qC rfl _ _ _ _ _ _ _ rfl (setRow_heap _ _ _ _ _ _ X) Tryz.underlying274 rfl (by rw[qd,D.1];kernel_rfl)) rfl ⟨rfl,below_setRow (Z.out.mono (by omega)) (by omega) _⟩
theorem qeq (zs:List Int)(v:Value)(w:World)(h:Holds8 w v zs)(hz: ∀z∈zs,0≤z∧z≤255)(hl:zs.length=64):
  Calls Tryz.prog 205 #[v] w fun e w'=>e= .returned (.tuple #[.agg (qg .u64 (yh .u64 IVb 8 zs)),.int .i64 0])∧Below w.heap.size w w':=by
 obtain⟨a,af,rfl⟩:=h.slice;obtain⟨S,ac⟩:=Ex w.heap.size;have H:=hid h;have HZ:=hid hz;have HL:=hid hl;rw[hl]at H⊢;clear h hz hl;go_enter Tryz.func205,Tryz.ntmps205
 go_wp2_with fail
 refine qj ?_;intro W G;obtain⟨q,Z⟩:=Ex (S+1);have hr:W.heap[S]? =some (.cells #[.int .u64 0,.int .u64 0,.int .u64 0,.int .u64 0,.int .u64 0,.int .u64 0,.int .u64 0,.int .u64 0] 274 (0,0)):=by
  rw[G];exact(Bh _ _ _ (by simp;omega)).trans (qc _ _ ac.symm)
 have D:W.heap[q]? =some (.cells (qg .u64 (yx [0,0,0,0,0,0,0,0] (Yh .u64 IVb 8 zs) 0)) 274 (0,0)):=by
  rw[G];exact qc _ _ (by simp;omega)
 have I:Below w.heap.size w W:=by
  rw[G];exact((Below.refl w.heap.size w).alloc Nl _).alloc (by simp) _
 rw[Z];have al:S+1≤q:=by omega
 clear G Z;have ak:q<W.heap.size:=(Ai D).1;have HR:=hid hr;have HV:=hid D;have HB:=hid I;clear hr D I;go_loopw [5] (fun i wr=> ∃j:Nat,i= .int .i64 j∧j≤8∧wr.heap[q]? =some (.cells (qg .u64 (yx [0,0,0,0,0,0,0,0] (Yh .u64 IVb 8 zs) j)) 274 (0,0))∧But q W wr) (fun i _=>8 - (intOf i).toNat)
 case atStart=>exact⟨0,rfl,Nat.zero_le _,HV.out,But.refl _ _⟩
 case round=>
  obtain⟨j,rfl,hj,D,I⟩:=hrel;have aj:=I.size;have Y:=hid D;have ae:=hid I;have aa:=hid (HB.out.trans (I.below (by omega) HB.out.size));have ai:q<wr.heap.size:=(Ai D).1;by_cases ab:j<8
  ·have c2:wr.cell? ⟨q,j,none⟩=some (.int .u64 (wd [0,0,0,0,0,0,0,0] j)):=by
    rw[qm D,yd (n:=8) (by rw[yb];rfl) (by omega),Yb _ _ _ _ Nl]
   have f2: ∀o,wr.frozen? ⟨q,o,none⟩=false:=(qK D).2;have e8:IntKind.i64.wrap (8*(j:Int))=((8*j:Nat):Int):=by rw[IntKind.wrap_i64];omega
   have V:=hid (qaJ zs (.slice a 64 af) (8*j) wr (qW H.out aa.out) HZ.out (by have:=HL.out;omega) (by have:=HL.out;omega));have e9:((8*j:Nat):Int)=8*(j:Int):=by omega
   have ad:8*(j:Int)≤64:=by omega
   rw[e9]at V;clear D I e8 e9;go_wp2_with fail
   refine V.out.mono ?_;rintro e2 w2 ⟨rfl,rfl⟩;go_wp2_with fail
   refine(qbP j ab _).mono ?_;rintro e3 w3 ⟨rfl,O⟩;have J:=(O.block q ai).trans Y.out;have ag:=hid J;have ah:=hid (ae.out.trans (But.of_below (b:=q) O));have c3:w3.cell? ⟨q,j,none⟩=some (.int .u64 (wd [0,0,0,0,0,0,0,0] j)):=by
    rw[qm J,yd (n:=8) (by rw[yb];rfl) (by omega),Yb _ _ _ _ Nl]
   have f3: ∀o,w3.frozen? ⟨q,o,none⟩=false:=(qK J).2;clear c2 f2 O J;go_wp2
   exact⟨⟨j+1,rfl,by omega,by rw[yx,←qY];exact block_setCell ag.out _,ah.out.set _ _⟩,by simp[intOf];omega⟩
  ·obtain rfl:j=8:=by omega
   have G:=Yg (k:= .u64) (N:=64) (fun z=>IntKind.wrap_u64 z) IVb 8 zs;have X:=(I.block S (by omega) (by omega)).trans HR.out;have U:(yx [0,0,0,0,0,0,0,0] (Yh .u64 IVb 8 zs) 8)=yh .u64 IVb 8 zs:=jg _ _;rw[U]at D;clear I Y U;go_wp2_with ((with_reducible show wpList _ _ _ (Oper.mk (some 29) _ _ _ _ _::_) _ _);refine wpList_load_row rfl 274 _ rfl q rfl _ _ _ _ D Tryz.underlying274 rfl (by rw[qd,G.1];kernel_rfl) ?_;refine wpList_store_row rfl 274 _ _ rfl S (qg .u64 (yh .u64 IVb 8 zs)) rfl rfl 274 _ X (by rw[qd,G.1];kernel_rfl) (by rw[qd,G.1];rfl) qw ?_)
   exact Bp (qC rfl _ _ _ _ _ _ _ rfl (setRow_heap _ _ _ _ _ _ X) Tryz.underlying274 rfl (by rw[qd,G.1];kernel_rfl)) rfl ⟨rfl,below_setRow (aa.out.mono (by omega)) (by omega) _⟩
theorem qg2 (zs:List Int)(v:Value)(at_:Nat)(w:World)(h:Holds8 w v zs)(D: ∀z∈zs,0≤z∧z≤255)(q:at_+4≤zs.length)(X:zs.length≤4294967296):
  Calls Tryz.prog 122 #[v,.int .i64 (at_:Nat),.int .i64 4] w fun e w'=>e= .returned (.tuple #[.int .u64 (Qa zs at_ 4),.int .i64 0])∧w'=w:=by
 obtain⟨a,J,rfl,h⟩:=h;obtain⟨b,off,rfl,U,o⟩:=h.resolve_left (fun e=>by rw[e]at q;simp at q);have G:=hid o;clear h o;go_enter Tryz.func122,Tryz.ntmps122
 go_wp2_with fail
 go_loopw [8,25] (fun s i wr=> ∃k:Nat,s= .int .u64 (Qa zs at_ k)∧i= .int .i64 k∧w=wr∧k≤4) (fun _ i _=>4 - (intOf i).toNat)
 case atStart=>exact⟨0,rfl,rfl,rfl,by omega⟩
 case round=>
  obtain⟨k,rfl,rfl,rfl,S⟩:=hrel;by_cases I:k<4
  ·have V:=G.out (at_+k) (by omega);have O:=orZ (Qa zs at_ k) (qn zs (at_+k)) k (by omega) (QB D k (by omega)) (qQ D (by omega)).2;go_wp2
   exact⟨⟨k+1,rfl,rfl,by trivial,by omega⟩,by simp[intOf];omega⟩
  ·obtain rfl:k=4:=by omega
   go_wp2
   exact Bp (results_tmp2 (fn:=Tryz.f122) (t:=6) (u:=7) rfl _ _ _) rfl ⟨rfl,rfl⟩
theorem qeP (zs:List Int)(v:Value)(at_:Nat)(w:World)(h:Holds8 w v zs)(D: ∀z∈zs,0≤z∧z≤255)(q:at_+4≤zs.length)(I:zs.length≤4294967296):
  Calls Tryz.prog 216 #[v,.int .i64 (at_:Nat)] w fun e w'=>e= .returned (.tuple #[.int .u32 (Qa zs at_ 4),.int .i64 0])∧w'=w:=by
 have H:=hid (qg2 zs v at_ w h D q I);have o:=QB D (at_:=at_) 4 q;simp only[Nat.reduceMul,Int.reducePow]at o;obtain⟨x,G⟩:=Ex (Qa zs at_ 4);rw[G]at H o⊢;obtain⟨J,O⟩:=o;clear G;go_enter Tryz.func216,Tryz.ntmps216
 go_wp2_with fail
 refine H.out.mono ?_;rintro e S ⟨rfl,rfl⟩;go_wp2
 exact Bp (results_tmp2 rfl _ _ _) rfl ⟨rfl,rfl⟩
theorem qde (n:Nat)(a:Option Addr)(o:Nat)(w:World):Calls Tryz.prog 200 #[.slice a n o,.int .i64 n] w fun e w'=>e= .returned (.int .i64 0)∧w'=w:=by
 go_enter Tryz.func200,Tryz.ntmps200
 go_wp2
 go_ret
 exact⟨rfl,rfl⟩
theorem jP (c:Nat)(hc:c≤16)(D:Nat)(T:TypeId)(zs:List Int)(v:Value)(w:World)(h:Holds8 w v zs)(hz: ∀z∈zs,0≤z∧z≤255)(X:zs.length=4*c)(q:w.heap[D]? =some (.cells (qg .u32 (yt 4 c zs 0)) T (0,0)))
  (O: ∀w',But D w w'→Holds8 w' v zs):
  Calls Tryz.prog 201 #[.slice (some ⟨D,0,none⟩) c c,v] w fun e w'=>e= .returned (.tuple #[])∧w'.heap[D]? =some (.cells (qg .u32 (QM 4 c zs)) T (0,0))∧But D w w':=by
 have HN:=hid O;have HZ:=hid hz;have U:=hid X;have HV:=hid q;clear h hz X q O;go_enter Tryz.func201,Tryz.ntmps201
 go_wp2_with fail
 go_loopw [7] (fun i wr=> ∃j:Nat,i= .int .i64 j∧j≤c∧wr.heap[D]? =some (.cells (qg .u32 (yt 4 c zs j)) T (0,0))∧But D w wr) (fun i _=>c - (intOf i).toNat)
 case atStart=>exact⟨0,rfl,Nat.zero_le _,HV.out,But.refl _ _⟩
 case round=>
  obtain⟨j,rfl,hj,q,G⟩:=hrel;have Z:=hid q;have J:=hid G;by_cases S:j<c
  ·have c2:wr.cell? ⟨D,j,none⟩=some (.int .u32 (wd (yt 4 c zs j) j)):=(qm q _).trans (yd (yo _ _ _ _) S);have f2: ∀o,wr.frozen? ⟨D,o,none⟩=false:=(qK q).2;have Y:((4*j:Nat):Int)=4*(j:Int):=by omega
   have I:=hid (qeP zs v (4*j) wr (HN.out wr G) HZ.out (by have:=U.out;omega) (by have:=U.out;omega));have V:4*(j:Int)≤64:=by omega
   rw[Y]at I;clear q G Y;go_wp2_with fail
   refine I.out.mono ?_;rintro e2 w2 ⟨rfl,rfl⟩;go_wp2
   exact⟨⟨j+1,rfl,by omega,by rw[yt,←qY];exact block_setCell Z.out _,J.out.set _ _⟩,by simp[intOf];omega⟩
  ·obtain rfl:j=c:=by omega
   rw[jf]at q;have aa:=hid q;clear q G;go_wp2
   exact bodyPost_end (results_none rfl _ _ _) rfl ⟨rfl,aa.out,J.out⟩
theorem val4 (zs:List Int)(i:Nat):Qa zs i 4=qn zs i+qn zs (i+1)*256+qn zs (i+2)*65536+qn zs (i+3)*16777216:=by
 simp only[Qa,Nat.reduceMul,Int.reducePow,Nat.add_zero];omega
theorem JX (zs:List Int)(v:Value)(at_:Nat)(w:World)(h:Holds8 w v zs)(q: ∀z∈zs,0≤z∧z≤255)(D:at_+4≤zs.length)(hm:zs.length≤4294967296):
  Calls Tryz.prog 210 #[v,.int .i64 (at_:Nat)] w fun e w'=>e= .returned (.int .u32 (Qa zs at_ 4))∧ ∃m,w'=w.drewN m:=by
 obtain⟨a,G,rfl,h⟩:=h;obtain⟨b,off,rfl,Y,o⟩:=h.resolve_left (fun e=>by rw[e]at D;simp at D);have S:=o at_ (by omega);have I:=o (at_+1) (by omega);have O:=o (at_+2) (by omega);have J:=o (at_+3) (by omega);obtain⟨-,x0,x1⟩:=qQ q (show at_<zs.length by omega);obtain⟨-,y0,U⟩:=qQ q (show at_+1<zs.length by omega);obtain⟨-,z0,z1⟩:=qQ q (show at_+2<zs.length by omega);obtain⟨-,Z,X⟩:=qQ q (show at_+3<zs.length by omega);rw[val4];generalize qn zs at_=x at*;generalize qn zs (at_+1)=y at*;generalize qn zs (at_+2)=z at*;generalize qn zs (at_+3)=t at*;have e1:IntKind.i64.wrap ((at_:Int)+1)=((at_+1:Nat):Int):=by rw[IntKind.wrap_i64];omega
 have e2:IntKind.i64.wrap ((at_:Int)+2)=((at_+2:Nat):Int):=by rw[IntKind.wrap_i64];omega
 have e3:IntKind.i64.wrap ((at_:Int)+3)=((at_+3:Nat):Int):=by rw[IntKind.wrap_i64];omega
 have l0:at_<zs.length:=by omega
 have l1:at_+1<zs.length:=by omega
 have V:at_+2<zs.length:=by omega
 have l3:at_+3<zs.length:=by omega
 clear h o q;go_enter Tryz.func210,Tryz.ntmps210
 go_wp2_with fail
 go_quiet (fail)
 go_wp2
 go_ret
 exact⟨rfl,nq,rfl⟩
theorem qd5 (zs:List Int)(v:Value)(w:World)(h:Holds8 w v zs)(hz: ∀z∈zs,0≤z∧z≤255)(U:zs.length=64):
  Calls Tryz.prog 203 #[v] w fun e w'=>e= .returned (.tuple #[.agg (qg .u32 (QM 4 16 zs)),.int .i64 0])∧Below w.heap.size w w':=by
 obtain⟨a,O,rfl⟩:=h.slice;obtain⟨q,Y⟩:=Ex w.heap.size;have H:=hid h;have X:=hid hz;have Z:=hid U;rw[U]at H⊢;clear h hz U;go_enter Tryz.func203,Tryz.ntmps203
 go_wp2_with fail
 refine(qde 64 a O _).mono ?_;rintro e1 J ⟨rfl,o⟩;have hr:J.heap[q]? =some (.cells #[.int .u32 0,.int .u32 0,.int .u32 0,.int .u32 0,.int .u32 0,.int .u32 0,.int .u32 0,.int .u32 0,.int .u32 0,.int .u32 0,.int .u32 0,.int .u32 0,.int .u32 0,.int .u32 0,.int .u32 0,.int .u32 0] 298 (0,0)):=by
  rw[o];exact(Bh _ _ _ (by simp;omega)).trans (qc _ _ Y.symm)
 have V:J.heap[q+1]? =some (.cells (qg .u32 (yt 4 16 zs 0)) 298 (0,0)):=by
  rw[o];exact qc _ _ (by simp;omega)
 have hB:Below w.heap.size w J:=by
  rw[o];exact((Below.refl w.heap.size w).alloc Nl _).alloc (by simp) _
 clear o;have G:=hid hB;have HR:=hid hr;have HV:=hid V;clear hr V hB;go_wp2_with fail
 refine(jP 16 (by decide) (q+1) 298 zs (.slice a 64 O) J (qW H.out G.out) X.out Z.out HV.out (fun w' ab=>qW H.out (G.out.trans (ab.below (by omega) G.out.size)))).mono ?_;rintro e2 w2 ⟨rfl,aa,D⟩
 have I:=Q5 4 16 X.out Z.out;have S:=(D.block q (by have:=(Ai HR.out).1;omega) (by omega)).trans HR.out;have ac:=hid (G.out.trans (D.below (by omega) G.out.size));clear D;go_wp2_with ((with_reducible show wpList _ _ _ (Oper.mk (some 15) _ _ _ _ _::_) _ _);refine wpList_load_row rfl 298 _ rfl (q+1) rfl _ _ _ _ aa Tryz.underlying298 rfl (by rw[qd,I.1];kernel_rfl) ?_;refine wpList_store_row rfl 298 _ _ rfl q (qg .u32 (QM 4 16 zs)) rfl rfl 298 _ S (by rw[qd,I.1];kernel_rfl) (by rw[qd,I.1];rfl) qw ?_)
 exact Bp (qC rfl _ _ _ _ _ _ _ rfl (setRow_heap _ _ _ _ _ _ S) Tryz.underlying298 rfl (by rw[qd,I.1];kernel_rfl)) rfl ⟨rfl,below_setRow (ac.out.mono (by omega)) (by omega) _⟩
theorem qbt (zs:List Int)(v:Value)(w:World)(h:Holds8 w v zs)(hz: ∀z∈zs,0≤z∧z≤255)(X:zs.length=64):
  Calls Tryz.prog 195 #[v] w fun e w'=>e= .returned (.tuple #[.agg (qg .u32 (QM 4 16 zs)),.int .i64 0])∧Below w.heap.size w w':=by
 obtain⟨a,ac,rfl⟩:=h.slice;obtain⟨q,Z⟩:=Ex w.heap.size;have H:=hid h;have Y:=hid hz;have V:=hid X;rw[X]at H⊢;clear h hz X;go_enter Tryz.func195,Tryz.ntmps195
 go_wp2_with fail
 refine qj ?_;intro W G;have hr:W.heap[q]? =some (.cells #[.int .u32 0,.int .u32 0,.int .u32 0,.int .u32 0,.int .u32 0,.int .u32 0,.int .u32 0,.int .u32 0,.int .u32 0,.int .u32 0,.int .u32 0,.int .u32 0,.int .u32 0,.int .u32 0,.int .u32 0,.int .u32 0] 298 (0,0)):=by
  rw[G];exact(Bh _ _ _ (by simp;omega)).trans (qc _ _ Z.symm)
 have D:W.heap[q+1]? =some (.cells (qg .u32 (yt 4 16 zs 0)) 298 (0,0)):=by
  rw[G];exact qc _ _ (by simp;omega)
 have I:Below w.heap.size w W:=by
  rw[G];exact((Below.refl w.heap.size w).alloc Nl _).alloc (by simp) _
 have af:q+1<W.heap.size:=(Ai D).1;clear G;have HR:=hid hr;have HV:=hid D;have HB:=hid I;clear hr D I;go_loopw [5] (fun i wr=> ∃j:Nat,i= .int .i64 j∧j≤16∧wr.heap[q+1]? =some (.cells (qg .u32 (yt 4 16 zs j)) 298 (0,0))∧But (q+1) W wr) (fun i _=>16 - (intOf i).toNat)
 case atStart=>exact⟨0,rfl,Nat.zero_le _,HV.out,But.refl _ _⟩
 case round=>
  obtain⟨j,rfl,hj,D,I⟩:=hrel;have ad:=I.size;have S:=hid D;have ab:=hid I;have U:=hid (HB.out.trans (I.below (by omega) HB.out.size));by_cases ae:j<16
  ·have e9:((4*j:Nat):Int)=4*(j:Int):=by omega
   have J:=hid (JX zs (.slice a 64 ac) (4*j) wr (qW H.out U.out) Y.out (by have:=V.out;omega) (by have:=V.out;omega));have aa:4*(j:Int)≤64:=by omega
   rw[e9]at J;clear I e9;go_wp2_with fail
   refine J.out.mono ?_;rintro e2 w2 ⟨rfl,m,rfl⟩;have c2:(wr.drewN m).cell? ⟨q+1,j,none⟩=some (.int .u32 (wd (yt 4 16 zs j) j)):=(qm (W:=wr.drewN m) D _).trans (yd (yo _ _ _ _) (by omega));have f2: ∀o,(wr.drewN m).frozen? ⟨q+1,o,none⟩=false:=(qK (W:=wr.drewN m) D).2;go_wp2
   exact⟨⟨j+1,rfl,by omega,by rw[yt,←qY];exact block_setCell (w:=wr.drewN m) S.out _,(ab.out.drewN m).set _ _⟩,by simp[intOf];omega⟩
  ·obtain rfl:j=16:=by omega
   have G:=Q5 4 16 Y.out V.out;have O:=(I.block q (by omega) (by omega)).trans HR.out;rw[jf]at D;clear I S;go_wp2_with ((with_reducible show wpList _ _ _ (Oper.mk (some 26) _ _ _ _ _::_) _ _);refine wpList_load_row rfl 298 _ rfl (q+1) rfl _ _ _ _ D Tryz.underlying298 rfl (by rw[qd,G.1];kernel_rfl) ?_;refine wpList_store_row rfl 298 _ _ rfl q (qg .u32 (QM 4 16 zs)) rfl rfl 298 _ O (by rw[qd,G.1];kernel_rfl) (by rw[qd,G.1];rfl) qw ?_)
   exact Bp (qC rfl _ _ _ _ _ _ _ rfl (setRow_heap _ _ _ _ _ _ O) Tryz.underlying298 rfl (by rw[qd,G.1];kernel_rfl)) rfl ⟨rfl,below_setRow (U.out.mono (by omega)) (by omega) _⟩
theorem qfB (n c:Nat)(zs:List Int){i:Nat}(o:i<c):wd (QM n c zs) i=Qa zs (n*i) n:=by
 simp[wd,QM,Lg,o]
theorem qeh (zs:List Int)(v:Value)(w:World)(h:Holds8 w v zs)(hz: ∀z∈zs,0≤z∧z≤255)(hl:zs.length=32):
  Calls Tryz.prog 186 #[v] w fun e w'=>e= .returned (.tuple #[.agg (qg .u32 (yh .u32 IVs 4 zs)),.int .i64 0])∧Below w.heap.size w w':=by
 obtain⟨a,ag,rfl⟩:=h.slice;obtain⟨q,ap⟩:=Ex w.heap.size;have H:=hid h;have HZ:=hid hz;have HL:=hid hl;rw[hl]at H⊢;clear h hz hl;go_enter Tryz.func186,Tryz.ntmps186
 go_wp2_with fail
 refine(qde 32 a ag _).mono ?_;rintro e1 w1 ⟨rfl,V⟩;have am:w1.heap[q]? =some (.cells #[.int .u32 0,.int .u32 0,.int .u32 0,.int .u32 0,.int .u32 0,.int .u32 0,.int .u32 0,.int .u32 0] 284 (0,0)):=by
  rw[V];exact qc _ _ ap.symm
 have ae:Below w.heap.size w w1:=by
  rw[V];exact(Below.refl w.heap.size w).alloc Nl _
 have al:w1.heap.size=q+1:=by rw[V];simp;omega
 clear V;go_wp2_with fail
 have af:(w1.alloc (.cells #[.int .u32 0,.int .u32 0,.int .u32 0,.int .u32 0,.int .u32 0,.int .u32 0,.int .u32 0,.int .u32 0] 284 (0,0))).heap[q+1]? =some (.cells (qg .u32 (yt 4 8 zs 0)) 284 (0,0)):=qc _ _ al.symm;have D:=ae.alloc (by omega) (.cells #[.int .u32 0,.int .u32 0,.int .u32 0,.int .u32 0,.int .u32 0,.int .u32 0,.int .u32 0,.int .u32 0] 284 (0,0));refine(jP 8 (by decide) (q+1) 284 zs (.slice a 32 ag) _ (qW H.out D) HZ.out HL.out af (fun w' ab=>qW H.out (D.trans (ab.below (by omega) D.size)))).mono ?_;rintro e2 w2 ⟨rfl,Z,X⟩
 have ad:=(X.block q (by simp;omega) (by omega)).trans ((Bh _ _ _ (by omega)).trans am);have S:=D.trans (X.below (by omega) D.size);have ak:q+1<w2.heap.size:=(Ai Z).1;clear X am ae af D al;go_wp2_with fail
 refine(qfq _).mono ?_;rintro e3 w3 ⟨rfl,U⟩;have Y:=(U.block (q+1) ak).trans Z;have ai:=(U.block q (by omega)).trans ad;have an:=S.trans (U.mono S.size);have ar:q+1<w3.heap.size:=(Ai Y).1;clear U Z ad S ak;go_wp2_with fail
 refine qj ?_;intro W I;obtain⟨O,aa⟩:=Ex w3.heap.size;have hr:W.heap[q]? =some (.cells #[.int .u32 0,.int .u32 0,.int .u32 0,.int .u32 0,.int .u32 0,.int .u32 0,.int .u32 0,.int .u32 0] 284 (0,0)):=by rw[I];exact(Bh _ _ _ (by omega)).trans ai
 have hp:W.heap[q+1]? =some (.cells (qg .u32 (QM 4 8 zs)) 284 (0,0)):=by rw[I];exact(Bh _ _ _ (by omega)).trans Y
 have G:W.heap[O]? =some (.cells (qg .u32 (yx IVs (Yh .u32 IVs 4 zs) 0)) 284 (0,0)):=by rw[I];exact qc _ _ aa.symm
 have J:Below w.heap.size w W:=by rw[I];exact an.alloc (by omega) _
 rw[aa];have ax:q+1<O:=by omega
 have aw:O<W.heap.size:=(Ai G).1;clear I ai Y an ar aa;have HR:=hid hr;have HP:=hid hp;have HV:=hid G;have HB:=hid J;clear hr hp G J;go_loopw [18] (fun i wr=> ∃j:Nat,i= .int .i64 j∧j≤8∧wr.heap[O]? =some (.cells (qg .u32 (yx IVs (Yh .u32 IVs 4 zs) j)) 284 (0,0))∧But O W wr) (fun i _=>8 - (intOf i).toNat)
 case atStart=>exact⟨0,rfl,Nat.zero_le _,HV.out,But.refl _ _⟩
 case round=>
  obtain⟨j,rfl,hj,G,J⟩:=hrel;have av:=J.size;have aj:=hid G;have aq:=hid J;have au:=hid (HB.out.trans (J.below (by omega) HB.out.size));have ay:O<wr.heap.size:=(Ai G).1;by_cases ao:j<8
  ·have c2:wr.cell? ⟨O,j,none⟩=some (.int .u32 (wd IVs j)):=by
    rw[qm G,yd (n:=8) (by rw[yb];rfl) (by omega),Yb _ _ _ _ Nl]
   have c1:wr.cell? ⟨q+1,j,none⟩=some (.int .u32 (Qa zs (4*j) 4)):=by
    rw[qm ((J.block (q+1) (by omega) (by omega)).trans HP.out),yd (n:=8) (by simp[QM]) (by omega),qfB _ _ _ ao]
   have f2: ∀o,wr.frozen? ⟨O,o,none⟩=false:=(qK G).2;have q1:q+1<wr.heap.size:=by omega
   clear G J;go_wp2_with fail
   refine qh (by dsimp only[List.dropLast]) (by rfl) (by rfl) (by kernel_rfl) (by kernel_rfl) (by kernel_rfl) (by kernel_rfl) ?_;repeat(go_big_quiet_step (fail))
   refine wpQuiet_nil ?_;intro _ ab;obtain⟨n1,rfl⟩:=ab;go_wp2
   exact⟨⟨j+1,rfl,by omega,by rw[yx,←qY];exact block_setCell (w:=wr.drewN n1) aj.out _,(aq.out.drewN n1).set _ _⟩,by simp[intOf];omega⟩
  ·obtain rfl:j=8:=by omega
   have I:=Yg (k:= .u32) (N:=32) (fun z=>IntKind.wrap_u32 z) IVs 4 zs;have ah:=(J.block q (by omega) (by omega)).trans HR.out;have ac:(yx IVs (Yh .u32 IVs 4 zs) 8)=yh .u32 IVs 4 zs:=jg _ _;rw[ac]at G;clear J aj ac;go_wp2_with ((with_reducible show wpList _ _ _ (Oper.mk (some 30) _ _ _ _ _::_) _ _);refine wpList_load_row rfl 284 _ rfl (O) rfl _ _ _ _ G Tryz.underlying284 rfl (by rw[qd,I.1];kernel_rfl) ?_;refine wpList_store_row rfl 284 _ _ rfl q (qg .u32 (yh .u32 IVs 4 zs)) rfl rfl 284 _ ah (by rw[qd,I.1];kernel_rfl) (by rw[qd,I.1];rfl) qw ?_)
   exact Bp (qC rfl _ _ _ _ _ _ _ rfl (setRow_heap _ _ _ _ _ _ ah) Tryz.underlying284 rfl (by rw[qd,I.1];kernel_rfl)) rfl ⟨rfl,below_setRow (au.out.mono (by omega)) (by omega) _⟩
theorem qer (zs:List Int)(v:Value)(w:World)(h:Holds8 w v zs)(hz: ∀z∈zs,0≤z∧z≤255)(hl:zs.length=32):
  Calls Tryz.prog 206 #[v] w fun e w'=>e= .returned (.tuple #[.agg (qg .u32 (yh .u32 IVs 4 zs)),.int .i64 0])∧Below w.heap.size w w':=by
 obtain⟨a,ad,rfl⟩:=h.slice;obtain⟨q,aa⟩:=Ex w.heap.size;have H:=hid h;have HZ:=hid hz;have HL:=hid hl;rw[hl]at H⊢;clear h hz hl;go_enter Tryz.func206,Tryz.ntmps206
 go_wp2_with fail
 refine(qaL _).mono ?_;rintro e3 w3 ⟨rfl,J⟩;have V:=(J.block q (by simp;omega)).trans ((Bh _ _ _ (by simp;omega)).trans (qc _ _ aa.symm));have O:=(J.block (q+1) (by simp;omega)).trans (qc _ _ (by simp;omega));have Z:Below w.heap.size w w3:=(((Below.refl w.heap.size w).alloc Nl _).alloc (by simp) _).trans (J.mono (by simp;omega));have af:q+1<w3.heap.size:=by have:=J.size;simp at this;omega
 clear J;go_wp2_with ((with_reducible show wpList _ _ _ (Oper.mk none (Op.store 284 _ _) _ _ _ _::_) _ _);refine wpList_store_row rfl 284 _ _ rfl (q+1) #[.int .u32 1779033703,.int .u32 3144134277,.int .u32 1013904242,.int .u32 2773480762,.int .u32 1359893119,.int .u32 2600822924,.int .u32 528734635,.int .u32 1541459225] rfl rfl 284 _ O (by kernel_rfl) (by kernel_rfl) (by kernel_rfl) ?_)
 refine qj ?_;intro W G;have hr:W.heap[q]? =some (.cells #[.int .u32 0,.int .u32 0,.int .u32 0,.int .u32 0,.int .u32 0,.int .u32 0,.int .u32 0,.int .u32 0] 284 (0,0)):=by rw[G];exact(setRow_other _ _ _ _ (by omega)).trans V
 have D:W.heap[q+1]? =some (.cells (qg .u32 (yx IVs (Yh .u32 IVs 4 zs) 0)) 284 (0,0)):=by rw[G];exact setRow_heap _ _ _ _ _ _ O
 have I:Below w.heap.size w W:=by rw[G];exact below_setRow Z (by omega) _
 have aj:q+1<W.heap.size:=(Ai D).1;clear G V O Z af;have HR:=hid hr;have HV:=hid D;have HB:=hid I;clear hr D I;go_loopw [5] (fun i wr=> ∃j:Nat,i= .int .i64 j∧j≤8∧wr.heap[q+1]? =some (.cells (qg .u32 (yx IVs (Yh .u32 IVs 4 zs) j)) 284 (0,0))∧But (q+1) W wr) (fun i _=>8 - (intOf i).toNat)
 case atStart=>exact⟨0,rfl,Nat.zero_le _,HV.out,But.refl _ _⟩
 case round=>
  obtain⟨j,rfl,hj,D,I⟩:=hrel;have ah:=I.size;have X:=hid D;have ac:=hid I;have Y:=hid (HB.out.trans (I.below (by omega) HB.out.size));by_cases ai:j<8
  ·have c2:wr.cell? ⟨q+1,j,none⟩=some (.int .u32 (wd IVs j)):=by
    rw[qm D,yd (n:=8) (by rw[yb];rfl) (by omega),Yb _ _ _ _ Nl]
   have f2: ∀o,wr.frozen? ⟨q+1,o,none⟩=false:=(qK D).2;have e9:((4*j:Nat):Int)=4*(j:Int):=by omega
   have ab:=hid (fun n=>JX zs (.slice a 32 ad) (4*j) (wr.drewN n) (qW H.out (Y.out.trans (QF n))) HZ.out (by have:=HL.out;omega) (by have:=HL.out;omega));have e8:IntKind.i64.wrap (4*(j:Int))=((4*j:Nat):Int):=by rw[IntKind.wrap_i64];omega
   have hS:=hid (show Yh .u32 IVs 4 zs j=bits .xor .u32 (wd IVs j) (Qa zs (4*j) 4) from rfl);generalize ae:4*j=k4 at*;clear D I ae e9;go_wp2_with fail
   refine qh (by dsimp only[List.dropLast]) (by rfl) (by rfl) (by kernel_rfl) (by kernel_rfl) (by kernel_rfl) (by kernel_rfl) ?_;repeat(go_big_quiet_step (exact Calls.quiet_of (ab.out _)))
   refine wpQuiet_nil ?_;intro _ ag;obtain⟨n1,rfl⟩:=ag;go_wp2
   exact⟨⟨j+1,rfl,by omega,by rw[yx,←qY,hS.out];exact block_setCell (w:=wr.drewN n1) X.out _,(ac.out.drewN n1).set _ _⟩,by simp[intOf];omega⟩
  ·obtain rfl:j=8:=by omega
   have G:=Yg (k:= .u32) (N:=32) (fun z=>IntKind.wrap_u32 z) IVs 4 zs;have U:=(I.block q (by omega) (by omega)).trans HR.out;have S:(yx IVs (Yh .u32 IVs 4 zs) 8)=yh .u32 IVs 4 zs:=jg _ _;rw[S]at D;clear I X S;go_wp2_with ((with_reducible show wpList _ _ _ (Oper.mk (some 31) _ _ _ _ _::_) _ _);refine wpList_load_row rfl 284 _ rfl (q+1) rfl _ _ _ _ D Tryz.underlying284 rfl (by rw[qd,G.1];kernel_rfl) ?_;refine wpList_store_row rfl 284 _ _ rfl q (qg .u32 (yh .u32 IVs 4 zs)) rfl rfl 284 _ U (by rw[qd,G.1];kernel_rfl) (by rw[qd,G.1];rfl) qw ?_)
   exact Bp (qC rfl _ _ _ _ _ _ _ rfl (setRow_heap _ _ _ _ _ _ U) Tryz.underlying284 rfl (by rw[qd,G.1];kernel_rfl)) rfl ⟨rfl,below_setRow (Y.out.mono (by omega)) (by omega) _⟩
end Go.Proofs.YthjoojnlnlmljaaGreat
namespace Go.Proofs.YthjoojnlnlmljaaGreat
open Go.ChangeShapes Go.WideShapes Go.ChangeAt Go.RowKit Go.Joins Go.Shelf Go.Maps
open Go.Lib (hid)
attribute [local go_sem] Oper.semAt_some YA
def qJ (n:Nat)(h:List Int):Nat→List Int
 | 0=>[]
 | i+1=>qJ n h i++qZ (wd h i).toNat n
theorem jv (n:Nat)(h:List Int): ∀i,(qJ n h i).length=n*i
 | 0=>rfl
 | i+1=>by rw[qJ,List.length_append,jv n h i,qS,Nat.mul_succ]
theorem yg {N n:Nat}{L:List Int}(h:Words N n L){i:Nat}(o:i<n):0≤wd L i∧wd L i<2^N:=by
 have e:wd L i=L[i]'(by rw[h.1];exact o):=by unfold wd;simp[Lg,h.1,o]
 rw[e];exact h.2 _ (List.getElem_mem _)
theorem qe9 (x k:Nat):0≤byt x k∧byt x k≤255:=by unfold byt;omega
theorem jy (x k:Nat): ∀z∈qZ x k,0≤z∧z≤255:=by
 intro z o;simp only[qZ,List.mem_map]at o;obtain⟨j, -,rfl⟩:=o;exact qe9 x j
theorem jx (n:Nat)(h:List Int): ∀i,∀z∈qJ n h i,0≤z∧z≤255
 | 0,z,o=>by simp[qJ]at o
 | i+1,z,o=>by
  rw[qJ,List.mem_append]at o;rcases o with o|o
  ·exact jx n h i z o
  ·exact jy _ _ z o
theorem qi {W W':World}{base:Nat}{e:TypeId}{size:Nat}{v:Value}{n:Nat}{G:List Value}(h:W.ownsRow base e size v n G)(J: ∀g,base≤g→g<W.heap.size→W'.heap[g]? =W.heap[g]?):W'.ownsRow base e size v n G:=by
 refine⟨h.1,?_⟩;rcases h.2 with o|⟨g,q,I,S,o,D,O⟩
 ·exact .inl o
 ·exact .inr ⟨g,q,I,S,o,(J g o (Ai D).1).trans D,O⟩
theorem qfl {W:World}{base n:Nat}{v:Value}{zs:List Int}(h:W.ownsRow base 5 1 v n (zs.map qp))(G:0<n):
  ∃g o,v= .slice (some ⟨g,0,none⟩) n o∧g<W.heap.size∧ ∀j u,(zs.map qp)[j]? =some u→W.cell? (Addr.add ⟨g,0,none⟩ j)=some u:=by
 rcases h.2 with⟨rfl,D⟩|⟨g,o,q,rfl,I⟩
 ·omega
 ·exact⟨g,o,rfl,(h.lt g rfl).2,h.cells (g:=g) rfl⟩
theorem qdK {zs:List Int}: ∀u∈zs.map qp,u.oneCell'=true:=by
 intro u o;obtain⟨z, -,rfl⟩:=List.mem_map.1 o;rfl
theorem QR {W:World}{base:Nat}{v:Value}{n:Nat}{zs:List Int}(h:W.ownsRow base 5 1 v n (zs.map qp)):Holds8 W v zs:=by
 have D:n=zs.length:=by have:=h.1;simpa using this.symm
 subst D;by_cases q:zs.length=0
 ·have:zs=[]:=List.length_eq_zero_iff.1 q
  subst this;rcases h.2 with⟨rfl, -⟩|⟨g,o,O,rfl, -⟩
  ·exact⟨none,0,rfl,.inl rfl⟩
  ·exact⟨_,o,rfl,.inl rfl⟩
 ·obtain⟨g,o,rfl,G,J⟩:=qfl h (Nat.pos_of_ne_zero q);refine⟨_,o,rfl,.inr ⟨g,0,rfl,G,fun i I=>?_⟩⟩;have:=J i (.int .u8 (qn zs i)) (by simp[qp,qn,Lg,I])
  rw[show(⟨g,0+i,none⟩:Addr)=Addr.add ⟨g,0,none⟩ i by by_cases h:i=0<;>simp[Addr.add,h]];exact this
theorem qe7 (h:List Int)(hh:Words 64 8 h)(w:World):
  Calls Tryz.prog 185 #[.agg (qg .u64 h)] w fun e w'=> ∃v,e= .returned v∧w'.ownsRow w.heap.size 5 1 v 64 ((qJ 8 h 8).map qp)∧Below w.heap.size w w':=by
 obtain⟨i0,hi,ah,ad,ag⟩:=info_parts Qy;obtain⟨q,ac⟩:=Ex w.heap.size;go_enter Tryz.func185,Tryz.ntmps185
 obtain⟨I,X⟩:=Ex (w.alloc (.cells (qg .u64 h) 274));have al:I.heap.size=w.heap.size+1:=by rw[←X];simp
 have Y:Below w.heap.size w I:=by rw[←X];exact(Below.refl w.heap.size w).alloc Nl _
 have ai:I.heap[q]? =some (.cells (qg .u64 h) 274 (0,0)):=by rw[←X];exact qc _ _ ac.symm
 obtain⟨w1,hr,D,o⟩:=run_make_own (P:=Tryz.prog) I w.heap.size 24 5 i0 (.int .u8 0) 1 Tryz.underlying24 hi ah ad .i64 .i64 64 (by rw[ag];omega) (by unfold maxLen;omega) (by omega);have ao:(Instr.makeSlice 24 (.int .i64 0) (.int .i64 64)).run Tryz.prog I= .ok (.slice (some ⟨I.heap.size,0,none⟩) 0 64) w1:=hr;have aj:w1.heap[q]? =some (.cells (qg .u64 h) 274 (0,0)):=(o.block q (by omega) (by simp)).trans ai;have ae:Below w.heap.size w w1:=Y.grown o (by omega) (fun k e=>by cases e);obtain⟨bg,af⟩:=Ex I.heap.size;have au:q<bg:=by omega
 rw[af]at ao D;have HR:=hid aj;have HB:=hid ae;have HO:=hid D;have HH:=hid hh;clear hr o Y ai ae D al af;rw[ac]at HO HB⊢;go_wp2_with ((with_reducible show wpList _ _ _ (Oper.mk _ (Op.load _ _) _ _ _ _::_) _ _);refine wpList_load_row rfl 274 _ rfl q rfl _ _ _ _ HR.out Tryz.underlying274 rfl (by rw[qd,HH.out.1];kernel_rfl) ?_)
 go_loopw [3,8] (fun s i wr=> ∃(k:Nat) (v:Value),s=v∧i= .int .i64 k∧k≤8∧wr.ownsRow q 5 1 v (8*k) ((qJ 8 h k).map qp)∧Below q w wr) (fun _ i _=>8 - (intOf i).toNat)
 case atStart=>exact⟨0,_,rfl,rfl,Nat.zero_le _,HO.out,HB.out⟩
 case round=>
  obtain⟨k,v,rfl,rfl,hk,G,Z⟩:=hrel;have av:=Z.size;by_cases U:k<8
  ·have ha:=qz (k:= .u64) HH.out U;obtain⟨x,hx⟩: ∃x:Nat,(x:Int)=wd h k:=⟨(wd h k).toNat,by have:=(yg HH.out U);omega⟩;rw[←hx]at ha;have ap:(x:Int)≤18446744073709551615:=by have:=(yg HH.out U);omega
   have V:(wd h k).toNat=x:=by omega
   have e1:(qJ 8 h (k+1)).map qp=(qJ 8 h k).map qp++(qZ x 8).map qp:=by rw[qJ,List.map_append,V]
   have E1:=hid e1;have OW:=hid G;have BW:=hid Z;clear e1 G Z hx V;go_wp2_with fail
   refine(qee x ap _).mono ?_;rintro e2 w2 ⟨v2,rfl,aa,J⟩
   have O:=qi OW.out (W':=w2) (fun g _ hg=>J.block g hg);have am:Below q w w2:=BW.out.trans (J.mono (by omega));have ar:=J.size;obtain⟨g2,c2,rfl,aq,an⟩:=qfl aa (by decide);clear J;go_wp2_with (at_builtin;refine wpList_append_own _ rfl _ _ 24 rfl q 5 i0 (.int .u8 0) 1 1 Tryz.underlying24 hi ah ad ag rfl (by decide) _ _ _ rfl O ⟨g2,0,none⟩ 8 c2 ((qZ x 8).map qp) rfl (by rw[List.length_map,qS]) an qdK (by unfold maxLen;omega) (by omega) (by omega) ?_;intro v' w3 S ab _;have ak:Below q w w3:=am.grown ab (by omega) (fun k e=>(O.lt k e).1))
   rw[←E1.out,←Nat.mul_succ]at S;exact⟨⟨k+1,v',rfl,rfl,by omega,S,ak⟩,by simp[intOf];omega⟩
  ·obtain rfl:k=8:=by omega
   go_wp2
   go_ret
   exact⟨_,rfl,G,Z⟩
attribute [local go_sem] Oper.semAt_some YA
theorem qe4 (W:World)(a0 a1 a2 o:Value)(T:TypeId): ∀j u,[a0,a1,a2,o][j]? =some u→(W.alloc (.cells #[a0,a1,a2,o] T)).cell? (Addr.add ⟨W.heap.size,0,none⟩ j)=some u:=by
 intro j u q;have h:=qa (Wn W (.cells #[a0,a1,a2,o] T)) j;rw[show Addr.add ⟨W.heap.size,0,none⟩ j=⟨W.heap.size,j,none⟩ by first|(simp[Addr.add];done)|(simp[Addr.add];omega),h];simpa using q
theorem qe8 (h:List Int)(hh:Words 32 8 h)(w:World):
  Calls Tryz.prog 188 #[.agg (qg .u32 h)] w fun e w'=> ∃v,e= .returned v∧w'.ownsRow w.heap.size 5 1 v 32 ((qJ 4 h 8).map qp)∧Below w.heap.size w w':=by
 obtain⟨i0,hi,ae,aa,ad⟩:=info_parts Qy;obtain⟨D,Z⟩:=Ex w.heap.size;go_enter Tryz.func188,Tryz.ntmps188
 obtain⟨I,U⟩:=Ex (w.alloc (.cells (qg .u32 h) 284));have ai:I.heap.size=w.heap.size+1:=by rw[←U];simp
 have V:Below w.heap.size w I:=by rw[←U];exact(Below.refl w.heap.size w).alloc Nl _
 have af:I.heap[D]? =some (.cells (qg .u32 h) 284 (0,0)):=by rw[←U];exact qc _ _ Z.symm
 obtain⟨w1,hr,q,o⟩:=run_make_own (P:=Tryz.prog) I w.heap.size 24 5 i0 (.int .u8 0) 1 Tryz.underlying24 hi ae aa .i64 .i64 32 (by rw[ad];omega) (by unfold maxLen;omega) (by omega);have aj:(Instr.makeSlice 24 (.int .i64 0) (.int .i64 32)).run Tryz.prog I= .ok (.slice (some ⟨I.heap.size,0,none⟩) 0 32) w1:=hr;have ag:w1.heap[D]? =some (.cells (qg .u32 h) 284 (0,0)):=(o.block D (by omega) (by simp)).trans af;have ab:Below w.heap.size w w1:=V.grown o (by omega) (fun k e=>by cases e);obtain⟨bg,ac⟩:=Ex I.heap.size;have ak:D<bg:=by omega
 rw[ac]at aj q;have HR:=hid ag;have HB:=hid ab;have HO:=hid q;have Y:=hid hh;clear hr o V af ab q ai ac;rw[Z]at HO HB⊢;go_wp2_with ((with_reducible show wpList _ _ _ (Oper.mk _ (Op.load _ _) _ _ _ _::_) _ _);refine wpList_load_row rfl 284 _ rfl D rfl _ _ _ _ HR.out Tryz.underlying284 rfl (by rw[qd,Y.out.1];kernel_rfl) ?_)
 go_loopw [3,8] (fun s i wr=> ∃(k:Nat) (v:Value),s=v∧i= .int .i64 k∧k≤8∧wr.ownsRow D 5 1 v (4*k) ((qJ 4 h k).map qp)∧Below D w wr) (fun _ i _=>8 - (intOf i).toNat)
 case atStart=>exact⟨0,_,rfl,rfl,Nat.zero_le _,HO.out,HB.out⟩
 case round=>
  obtain⟨k,v,rfl,rfl,hk,G,hb⟩:=hrel;have al:=hb.size;by_cases O:k<8
  ·have ha:=qz (k:= .u32) Y.out O;obtain⟨x,hx⟩: ∃x:Nat,(x:Int)=wd h k:=⟨(wd h k).toNat,by have:=(yg Y.out O);omega⟩;rw[←hx]at ha;have am:(x:Int)≤4294967295:=by have:=(yg Y.out O);omega
   have S:(wd h k).toNat=x:=by omega
   have q0:(x:Int)%256=byt x 0:=by have:=zv x 0;simpa using this
   have q1:(x:Int)/256%256=byt x 1:=zv x 1;have q2:(x:Int)/65536%256=byt x 2:=zv x 2;have q3:(x:Int)/16777216=byt x 3:=by
    have h3:(x:Int)/16777216%256=byt x 3:=zv x 3;rw[←h3];omega
   have e1:(qJ 4 h (k+1)).map qp=(qJ 4 h k).map qp++[.int .u8 (byt x 0),.int .u8 (byt x 1),.int .u8 (byt x 2),.int .u8 (byt x 3)]:=by rw[qJ,List.map_append,S];rfl
   have E1:=hid e1;clear e1 hx S;go_wp2_with (at_builtin;refine wpList_append_own _ rfl _ _ 24 rfl D 5 i0 (.int .u8 0) 1 1 Tryz.underlying24 hi ae aa ad rfl (by decide) _ _ _ rfl (G.alloc _) ⟨wr.heap.size,0,none⟩ 4 4 [.int .u8 (byt x 0),.int .u8 (byt x 1),.int .u8 (byt x 2),.int .u8 (byt x 3)] rfl rfl (qe4 _ _ _ _ _ _) (by simp[Value.oneCell']) (by unfold maxLen;omega) (by omega) (by simp;omega) ?_;intro v' w2 J X _;have ah:Below D w w2:=(hb.alloc (by omega) _).grown X (by simp;omega) (fun k e=>(G.lt k e).1))
   rw[←E1.out,←Nat.mul_succ]at J;exact⟨⟨k+1,v',rfl,rfl,by omega,J,ah⟩,by simp[intOf];omega⟩
  ·obtain rfl:k=8:=by omega
   go_wp2
   go_ret
   exact⟨_,rfl,G,hb⟩
end Go.Proofs.YthjoojnlnlmljaaGreat
namespace Go.Proofs.YthjoojnlnlmljaaGreat
open Go.ChangeShapes Go.WideShapes Go.ChangeAt Go.RowKit Go.Joins Go.Shelf Go.Maps
open Go.Lib (hid)
attribute [local go_sem] Oper.semAt_some
def SrcIs (w:World)(x:Value)(m:Nat)(news:List Value):Prop:=
 news.length=m∧(∀u∈news,u.oneCell'=true)∧((x= .slice none 0 0∧m=0)∨ ∃ad c,x= .slice (some ad) m c∧ ∀j u,news[j]? =some u→w.cell? (ad.add j)=some u)
theorem SrcIs.below {w w':World}{x:Value}{m:Nat}{o:List Value}(h:SrcIs w x m o)(I:Below w.heap.size w w'):SrcIs w' x m o:=by
 refine⟨h.1,h.2.1,?_⟩;rcases h.2.2 with q|⟨D,c,e,q⟩
 ·exact .inl q
 ·refine .inr ⟨D,c,e,fun j u G=>?_⟩;have:=q j u G
  rw[I.cell (World.block_lt_of_cell? w _ this)];exact this
theorem qaE {P:Program}{w W:World}{B:Nat}(hB:B=W.heap.size)(J:Below B W w)(t Y e:TypeId)(i:TypeInfo)(z:Value)(D:Nat)(ht:P.underlying t=some (.slice e))(hi:P.info? e=some i)(hz:i.zero=some z)
  (U:i.size=1) (ab:i.bytes=D) (aa:z.cells.size=1) (v:Value) (n:Nat) (O:List Value) (o:w.ownsRow B e 1 v n O)
  (x:Value) (m:Nat) (q:List Value) (X:SrcIs w x m q) (Z:n+m≤maxLen) (G:(n+m)*D≤140737488355328):
  ∃v' w',(Builtin.append_ #[t,t] Y #[v,x]).run P w= .ok v' w'∧w'.ownsRow B e 1 v' (n+m) (O++q)∧Below B W w':=by
 subst hB;obtain⟨h1,h2,V⟩:=X;rcases V with⟨rfl,rfl⟩|⟨ad,c,rfl,V⟩
 ·obtain rfl:q=[]:=List.eq_nil_of_length_eq_zero h1;exact⟨v,w,run_append_owned_none w W.heap.size t Y e i 1 ht hi v n O o,by simpa using o,J⟩
 ·obtain⟨v',w',hr,I,S, -⟩:=run_append_own (P:=P) w W.heap.size t Y e i z 1 D ht hi hz U ab aa (by omega) v n O o ad m c q (by omega) V h2 Z G J.size;exact⟨v',w',hr,I,J.grown S J.size (fun k e=>(o.lt k e).1)⟩
theorem qai {P:Program}{w:World}{ops:Array Oper}{o:Oper}{a:Act}{K:Act→World→Prop}{Q:Exit→Act→World→Prop}{E:Prop}(Y:o.guard=none)(s x:Operand)(t:TypeId)
  (ho:o.op= .call { callee:= .builtin .append,args:= #[s,x],argTypes:= #[t,t] }) (W:World) (B:Nat) (hB:B=W.heap.size) (hb:Below B W w)
  (e:TypeId) (i:TypeInfo) (z:Value) (q:Nat) (ht:P.underlying t=some (.slice e)) (hi:P.info? e=some i) (hz:i.zero=some z)
  (I:i.size=1) (X:i.bytes=q) (V:z.cells.size=1) (v:Value) (n:Nat) (O:List Value) (hs:a.eval s=v) (J:w.ownsRow B e 1 v n O)
  (u:Value) (m:Nat) (D:List Value) (hx:a.eval x=u) (S:SrcIs w u m D) (U:n+m≤maxLen) (G:(n+m)*q≤140737488355328)
  (h: ∀v' w',w'.ownsRow B e 1 v' (n+m) (O++D)→Below B W w'→K (a.put o.dst v') w'):
  if Region.wanted o (yielded ops a.tmps)=true then Oper.wp P o a w K Q else E:=by
 have hw:Region.wanted o (yielded ops a.tmps)=true:=by simp[Region.wanted,Y]
 rw[if_pos hw];obtain⟨v',w',hr,Z,h3⟩:=qaE (P:=P) hB hb t o.type e i z q ht hi hz I X V v n O J u m D S U G;unfold Oper.wp execOp;simp only[ho,resolve,invoke,builtin,Sem.run_bind,Sem.run_pure,Result.andThen_ok,List.map_toArray,List.map_cons,List.map_nil,hs,hx,hr];exact h v' w' Z h3
theorem qei {w:World}{B n:Nat}{e:TypeId}{v:Value}{o:List Value}(h:w.ownsRow B e 1 v n o)(D: ∀u∈o,u.oneCell'=true):SrcIs w v n o:=by
 refine⟨by have:=h.1;omega,D,?_⟩;rcases h.2 with⟨rfl,rfl⟩|⟨g,q,G,rfl, -⟩
 ·exact .inl ⟨rfl,rfl⟩
 ·exact .inr ⟨⟨g,0,none⟩,q,rfl,h.cells (g:=g) rfl⟩
theorem Qh {P:Program}{w:World}{ops:Array Oper}{o:Oper}{l:List Oper}{a:Act}{Q:Exit→Act→World→Prop}(J:o.guard=none)(s x:Operand)(t:TypeId)
  (ho:o.op= .call { callee:= .builtin .append,args:= #[s,x],argTypes:= #[t,t] }) (W:World) (B:Nat) (hB:B=W.heap.size) (hb:Below B W w)
  (e:TypeId) (i:TypeInfo) (z:Value) (q:Nat) (ht:P.underlying t=some (.slice e)) (hi:P.info? e=some i) (hz:i.zero=some z)
  (I:i.size=1) (Z:i.bytes=q) (Y:z.cells.size=1) (v:Value) (n:Nat) (S:List Value) (hs:a.eval s=v) (O:w.ownsRow B e 1 v n S)
  (u:Value) (m:Nat) (D:List Value) (hx:a.eval x=u) (U:SrcIs w u m D) (V:n+m≤maxLen) (G:(n+m)*q≤140737488355328)
  (h: ∀v' w',w'.ownsRow B e 1 v' (n+m) (S++D)→Below B W w'→wpList P ops Q l (a.put o.dst v') w'):wpList P ops Q (o::l) a w:=by
 have X:Region.wanted o (yielded ops a.tmps)=true:=by simp[Region.wanted,J]
 unfold wpList;rw[if_pos X];refine .inl ?_;have H:=qai (ops:=ops) (K:=wpList P ops Q l) (Q:=Q) (E:=True) J s x t ho W B hB hb e i z q ht hi hz I Z Y v n S hs O u m D hx U V G h;rw[if_pos X]at H;exact H
def Qc (zs:List Int):Nat→Nat
 | 0=>0
 | k+1=>if qn zs k=0 then Qc zs k else k+1
theorem Zo (zs:List Int): ∀k,Qc zs k≤k
 | 0=>Nat.le_refl _
 | k+1=>by
  unfold Qc;split
  ·exact Nat.le_succ_of_le (Zo zs k)
  ·exact Nat.le_refl _
theorem qaz (zs:List Int): ∀k j,Qc zs k≤j→j<k→qn zs j=0
 | 0,j,_,h=>by omega
 | k+1,j,h1,h2=>by
  unfold Qc at h1;split at h1
  ·rename_i h;by_cases e:j=k
   ·rw[e];exact h
   ·exact qaz zs k j h1 (by omega)
  ·omega
theorem qc9 {w:World}{b off n o:Nat}{zs:List Int}(h:Qm w b off zs)(I:n≤zs.length):SrcIs w (.slice (some ⟨b,off,none⟩) n o) n ((zs.take n).map qp):=by
 refine⟨by simp;omega,?_,.inr ⟨⟨b,off,none⟩,o,rfl,?_⟩⟩
 ·intro u G;obtain⟨z, -,rfl⟩:=List.mem_map.1 G;rfl
 ·intro j u D;obtain⟨q,rfl⟩:=List.getElem?_eq_some_iff.1 D;simp at q
  rw[Go.WideShapes.add_plain,h.2 j (by omega)];simp[qp,qn,Lg,show j<zs.length by omega]
theorem qay (zs:List Int)(b off D:Nat)(w:World)(Y:Qm w b off zs)(aa:zs.length≤D)(hm:zs.length≤4294967296):
  Calls Tryz.prog 159 #[.slice (some ⟨b,off,none⟩) zs.length D] w fun e w'=> ∃v',e= .returned v'∧w'.ownsRow w.heap.size 5 1 v' (Qc zs zs.length) ((zs.take (Qc zs zs.length)).map qp)∧Below w.heap.size w w':=by
 obtain⟨i0,hi,U,J,S⟩:=info_parts Qy;obtain⟨h1,Z⟩:=id Y;have HC:=hid Z;have HB:=hid Y;clear Z Y;go_enter Tryz.func159,Tryz.ntmps159
 go_wp2_with fail
 go_loopw [3] (fun i wr=> ∃k:Nat,i= .int .i64 k∧wr=w∧k≤zs.length∧Qc zs k=Qc zs zs.length) (fun i _=>(intOf i).toNat)
 case atStart=>exact⟨zs.length,rfl,rfl,Nat.le_refl _,rfl⟩
 case round=>
  obtain⟨k,rfl,rfl,hk,O⟩:=hrel;have V:=hid O;clear O
  cases k with
  | zero=>
   have k5:(0:Int)≤D:=by omega
   have hN:=Zo zs zs.length;have X:=hid (show Qc zs zs.length=0 from V.out.symm);go_wp2_with (at_builtin;refine Qh rfl _ _ _ rfl wr wr.heap.size rfl (by repeat(first|exact Below.refl _ _|refine Below.drew ?_)) 5 i0 (.int .u8 0) 1 Tryz.underlying24 hi U J S rfl _ 0 [] rfl (Wo _ _ _ _) _ 0 _ rfl (qc9 (n:=0) HB.out (by omega)) (by unfold maxLen;omega) (by omega) ?_;intro v' w2 o I)
   go_ret
   refine⟨_,rfl,?_,I⟩;rw[X.out];exact o
  | succ j=>
   have hc:=HC.out j (by omega);have k1:((j+1:Nat):Int) - 1=(j:Nat):=by omega
   have k2:0≤(j:Int)∧(j:Int)<4294967296:=by omega
   obtain⟨k3,k4⟩:=k2;have k5:(j:Int)+1≤D:=by omega
   by_cases G:qn zs j=0
   ·rw[G]at hc;go_wp2
    exact⟨⟨j,rfl,by trivial,by omega,by rw[←V.out];simp[Qc,G]⟩,by simp[intOf]⟩
   ·have X:=hid (show j+1=Qc zs zs.length by rw[←V.out];simp[Qc,G]);have q:=beq_eq_false_iff_ne.2 G;have q2:(qn zs j==0)=false:=q;generalize qn zs j=z at hc G q q2;clear q G;go_wp2_with (at_builtin;refine Qh rfl _ _ _ rfl wr wr.heap.size rfl (by repeat(first|exact Below.refl _ _|refine Below.drew ?_)) 5 i0 (.int .u8 0) 1 Tryz.underlying24 hi U J S rfl _ 0 [] rfl (Wo _ _ _ _) _ (j+1) _ rfl (qc9 (n:=j+1) HB.out (by omega)) (by unfold maxLen;omega) (by omega) ?_;intro v' w2 o I)
    go_ret
    refine⟨_,rfl,?_,I⟩;rw[←X.out];simpa using o
theorem jt (zs:List Int)(b off V:Nat)(w:World)(hB:Qm w b off zs)(ai:zs.length≤V)(hm:zs.length≤4294967296):
  Calls Tryz.prog 190 #[.slice (some ⟨b,off,none⟩) zs.length V] w fun e w'=> ∃v',e= .returned v'∧w'.ownsRow w.heap.size 5 1 v' (Qc zs zs.length) ((zs.take (Qc zs zs.length)).map qp)∧Below w.heap.size w w':=by
 obtain⟨i0,hi,af,ab,ac⟩:=info_parts Qy;obtain⟨h1,h2⟩:=id hB;have Z:=hid h2;have HB:=hid hB;obtain⟨N,hN⟩:=Ex (Qc zs zs.length);have ae:=Zo zs zs.length;rw[hN]at ae⊢;have HN:=hid hN;clear h2 hB hN;go_enter Tryz.func190,Tryz.ntmps190
 go_wp2_with fail
 go_loopw [3] (fun i wr=> ∃k:Nat,i= .int .i64 k∧w=wr∧k≤zs.length∧Qc zs k=N) (fun i _=>(intOf i).toNat)
 case atStart=>exact⟨zs.length,rfl,rfl,Nat.le_refl _,HN.out⟩
 case round=>
  obtain⟨k,rfl,rfl,hk,X⟩:=hrel;have HE:=hid X;clear X;by_cases J: ∃j,k=j+1∧qn zs j=0
  ·obtain⟨j,rfl,hj⟩:=J;have hc:=Z.out j (by omega);have k1:((j+1:Nat):Int) - 1=(j:Nat):=by omega
   have k3:0≤(j:Int):=by omega
   have k4:(j:Int)<4294967296:=by omega
   rw[hj]at hc;go_wp2
   exact⟨⟨j,rfl,by trivial,by omega,by rw[←HE.out];simp[Qc,hj]⟩,by simp[intOf]⟩
  ·have ek:k=N:=by
    rw[←HE.out]
    cases k with
    | zero=>rfl
    | succ j=>simp only[Qc];rw[if_neg (fun h=>J ⟨j,rfl,h⟩)]
   have ag:k=0∨ ∃j z,k=j+1∧w.cell? ⟨b,off+j,none⟩=some (.int .u8 z)∧(z==0)=false:=by
    cases k with
    | zero=>exact .inl rfl
    | succ j=>exact .inr ⟨j,qn zs j,rfl,Z.out j (by omega),beq_eq_false_iff_ne.2 (fun h=>J ⟨j,rfl,h⟩)⟩
   clear J;subst ek;rcases ag with I|⟨j,z,I,hc,hq⟩
   case inl=>
    subst I;go_wp2_with fail
    go_loopw [4,5] (fun o i O=> ∃(m:Nat) (v:Value),o=v∧i= .int .i64 m∧m≤0∧O.ownsRow w.heap.size 5 1 v m ((zs.take m).map qp)∧Below w.heap.size w O) (fun _ i _=>0 - (intOf i).toNat)
    case atStart=>exact⟨0,_,rfl,rfl,by omega,Wo _ _ _ _,Below.refl _ _⟩
    case round=>
     obtain⟨i,v,rfl,rfl,ah,q,D⟩:=hrel;have Y:=D.size;by_cases U:i<0
     ·exact absurd U (by omega)
     ·obtain rfl:i=0:=by omega
      go_wp2
      go_ret
      exact⟨_,rfl,q,D⟩
   case inr=>
    have HK:=hid I;have k1:((j+1:Nat):Int) - 1=(j:Nat):=by omega
    have k3:0≤(j:Int):=by omega
    have k4:(j:Int)<4294967296:=by omega
    subst I;go_wp2_with fail
    go_loopw [4,5] (fun o i O=> ∃(m:Nat) (v:Value),o=v∧i= .int .i64 m∧m≤j+1∧O.ownsRow w.heap.size 5 1 v m ((zs.take m).map qp)∧Below w.heap.size w O) (fun _ i _=>j+1 - (intOf i).toNat)
    case atStart=>exact⟨0,_,rfl,rfl,by omega,Wo _ _ _ _,Below.refl _ _⟩
    case round=>
     clear hc hq k1 k3 k4;obtain⟨i,v,rfl,rfl,ah,q,D⟩:=hrel;have Y:=D.size;by_cases U:i<j+1
     ·have ad:=(D.cell (p:=⟨b,off+i,none⟩) h1).trans (Z.out i (by omega));have e1:=hid (show(zs.take (i+1)).map qp=(zs.take i).map qp++[.int .u8 (qn zs i)] by
       rw[List.take_add_one,List.map_append];simp[qn,Lg,show i<zs.length by omega,qp])
      generalize qn zs i=y at ad e1;go_wp2_with (at_builtin;refine wpList_append_own _ rfl _ _ 24 rfl w.heap.size 5 i0 (.int .u8 0) 1 1 Tryz.underlying24 hi af ab ac rfl (by decide) _ _ _ rfl (q.alloc _) ⟨wr.heap.size,0,none⟩ 1 1 [.int .u8 y] rfl rfl (cell_one_new _ _ _) (by simp[Value.oneCell']) (by unfold maxLen;omega) (by omega) (by simp;omega) ?_;intro v' w2 G S _;have aa:Below w.heap.size w w2:=(D.alloc Y _).grown S (by simp;omega) (fun k e=>(q.lt k e).1))
      rw[←e1.out]at G;exact⟨⟨i+1,v',rfl,rfl,by omega,G,aa⟩,by simp[intOf];omega⟩
     ·obtain rfl:i=j+1:=by omega
      go_wp2
      go_ret
      exact⟨_,rfl,q,D⟩
theorem qbN (big:Bool)(a:Option Addr)(n q:Nat)(w:World):
  Calls Tryz.prog 127 #[.int .i64 (kB big),.slice a n q] w fun e w'=>(∃x,e= .returned (.int .i64 x)∧(x=0↔n=mB big))∧w'=w:=by
 have o:=Zw big
 cases big
 case' false=>
  change ∀w:World,Calls Tryz.prog 126 #[.int .i64 2] w fun e w'=>e= .returned (.tuple #[.int .i64 32,.int .i64 32,.int .i64 8])∧w'=w at o
  change Calls _ _ #[.int .i64 2,_] _ fun e w'=>(∃x,e= .returned (.int .i64 x)∧(x=0↔n=32))∧_
  obtain⟨N,D⟩: ∃N:Nat,N=32:=⟨_,rfl⟩
 case' true=>
  change ∀w:World,Calls Tryz.prog 126 #[.int .i64 1] w fun e w'=>e= .returned (.tuple #[.int .i64 64,.int .i64 64,.int .i64 16])∧w'=w at o
  change Calls _ _ #[.int .i64 1,_] _ fun e w'=>(∃x,e= .returned (.int .i64 x)∧(x=0↔n=64))∧_
  obtain⟨N,D⟩: ∃N:Nat,N=64:=⟨_,rfl⟩
 all_goals
  by_cases J:n<N
  case' neg=>by_cases G:N<n
  all_goals
   subst D;go_enter Tryz.func127,Tryz.ntmps127
   go_wp2_with fail
   refine(o _).mono ?_;rintro e I ⟨rfl,rfl⟩;go_wp2_with fail
   go_ret
   exact⟨⟨_,rfl,by omega⟩,rfl⟩
theorem qbJ (big:Bool)(a:Option Addr)(n D:Nat)(w:World):
  Calls Tryz.prog 172 #[.int .i64 (kB big),.slice a n D] w fun e w'=>(∃x,e= .returned (.int .i64 x)∧(x=0↔n=mB big))∧w'=w:=by
 have q:=yV big;have o:=jG big
 cases big
 case' false=>
  change ∀w:World,Calls Tryz.prog 167 #[.int .i64 2] w fun e w'=>e= .returned (.int .i64 32)∧w'=w at q
  change ∀w:World,Calls Tryz.prog 164 #[.int .i64 2] w fun e w'=>e= .returned (.int .i64 32)∧w'=w at o
  change Calls _ _ #[.int .i64 2,_] _ fun e w'=>(∃x,e= .returned (.int .i64 x)∧(x=0↔n=32))∧_
  obtain⟨N,G⟩: ∃N:Nat,N=32:=⟨_,rfl⟩
 case' true=>
  change ∀w:World,Calls Tryz.prog 167 #[.int .i64 1] w fun e w'=>e= .returned (.int .i64 64)∧w'=w at q
  change ∀w:World,Calls Tryz.prog 164 #[.int .i64 1] w fun e w'=>e= .returned (.int .i64 64)∧w'=w at o
  change Calls _ _ #[.int .i64 1,_] _ fun e w'=>(∃x,e= .returned (.int .i64 x)∧(x=0↔n=64))∧_
  obtain⟨N,G⟩: ∃N:Nat,N=64:=⟨_,rfl⟩
 all_goals
  by_cases O:n<N
  case' neg=>by_cases J:N<n
  all_goals
   subst G;go_enter Tryz.func172,Tryz.ntmps172
   go_wp2_with fail
   refine(q _).mono ?_;rintro e I ⟨rfl,rfl⟩;go_wp2_with fail
   refine(o _).mono ?_;rintro e I ⟨rfl,rfl⟩;go_wp2_with fail
   try(refine(o _).mono ?_;rintro e I ⟨rfl,rfl⟩;go_wp2_with fail)
   go_ret
   exact⟨⟨_,rfl,by omega⟩,rfl⟩
def atB (big:Bool):Nat→Nat
 | 1=>0|2=>1|3=>2|4=>3|5=>4|6=>8|7=>12
 | 8=>cond big 16 14
 | _=>cond big 17 15
def szB (big:Bool):Nat→Nat
 | 5=>4
 | 6=>cond big 8 6
 | 7=>cond big 4 2
 | _=>1
theorem je (big:Bool)(f:Nat)(o:1≤f∧f≤9)(w:World):
  Calls Tryz.prog 165 #[.int .i64 (kB big),.int .i64 f] w fun e w'=>e= .returned (.tuple #[.int .i64 (atB big f:Nat),.int .i64 (szB big f:Nat)])∧w'=w:=by
 have h:f=1∨f=2∨f=3∨f=4∨f=5∨f=6∨f=7∨f=8∨f=9:=by omega
 clear o;rcases h with rfl|rfl|rfl|rfl|rfl|rfl|rfl|rfl|rfl<;>cases big<;>
 ·simp only[kB,atB,szB,cond];go_enter Tryz.func165,Tryz.ntmps165
  go_wp2
  exact Bp (results_tmp2 (fn:=Tryz.f165) (t:=4) (u:=5) rfl _ _ _) rfl ⟨rfl,rfl⟩
def qiq (big:Bool)(w:World)(b:Nat):Prop:=b<w.heap.size∧ ∀f,1≤f→f≤9→w.cell? ⟨b,(f - 1)*5,none⟩=some (.int .i64 f)∧w.cell? ⟨b,(f - 1)*5+1,none⟩=some (.int .i64 (atB big f:Nat))∧w.cell? ⟨b,(f - 1)*5+2,none⟩=some (.int .i64 (szB big f:Nat))
theorem Jc:(Tryz.prog.info? 219).map (fun i=>(i.zero,i.size,i.bytes))=some (some (.agg #[.int .i64 0,.int .i64 0,.int .i64 0,.string ⟨#[]⟩,.int .i64 0]),5,48):=by kernel_rfl
theorem qfg (big:Bool)(w:World):
  Calls Tryz.prog 128 #[.int .i64 (kB big)] w fun e w'=>(∃b,e= .returned (.slice (some ⟨b,0,none⟩) 9 9)∧w.heap.size≤b∧qiq big w' b)∧Below w.heap.size w w':=by
 cases hie:Tryz.prog.info? 219 with
 | none=>have:=Jc;rw[hie]at this;cases this
 | some ie=>
 have q:=Jc;rw[hie]at q;simp only[Option.map_some,Option.some.injEq,Prod.mk.injEq]at q;obtain⟨D,o, -⟩:=q
 cases big<;>
 ·simp only[kB,cond];go_enter Tryz.func128,Tryz.ntmps128
  go_wp2_with ((with_reducible show wpList _ _ _ (Oper.mk _ (Op.buildSlice _ _ _) _ _ _ _::_) _ _);refine wpList_buildSlice rfl 215 219 9 _ rfl rowCells ie _ Tryz.underlying215 hie D (by rw[o];decide) (by rw[o];decide) (by rw[o];rfl) ?_)
  go_ret
  refine⟨⟨_,rfl,Nat.le_refl _,by simp,fun f I G=>?_⟩,Br.alloc Nl _⟩;have h:f=1∨f=2∨f=3∨f=4∨f=5∨f=6∨f=7∨f=8∨f=9:=by omega
  rcases h with rfl|rfl|rfl|rfl|rfl|rfl|rfl|rfl|rfl<;>exact⟨(qa (Wn w _) _).trans rfl,(qa (Wn w _) _).trans rfl,(qa (Wn w _) _).trans rfl⟩
end Go.Proofs.YthjoojnlnlmljaaGreat
