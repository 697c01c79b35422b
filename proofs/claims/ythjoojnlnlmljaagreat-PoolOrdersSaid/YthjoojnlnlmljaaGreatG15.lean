/- A block's words, by the program and by the reference: the big kind. No condition. -/
import Derived.Test.YthjoojnlnlmljaaGreatG05
import Derived.Test.YthjoojnlnlmljaaGreatG14
import Derived.Laws.MakeOwn
import Derived.Test.YthjoojnlnlmljaaGreatG07
import Derived.Deep.RegionHeld3
import Derived.Laws.AppendOwnNone
set_option linter.all false
set_option maxRecDepth 100000
set_option maxHeartbeats 8000000
namespace Go.Proofs.YthjoojnlnlmljaaGreat
open Go.ChangeShapes Go.WideShapes Go.ChangeAt Go.RowKit Go.Joins Go.Shelf Go.Maps
open Go.Lib (hid)
attribute [local go_sem] Oper.semAt_some
def QU (n c:Nat)(zs:List Int):List Int:=(List.range c).map fun i=>Qh zs (n*i) n
def yB (n c:Nat)(zs:List Int):Nat→List Int
 | 0=>List.replicate c 0
 | j+1=>(yB n c zs j).set j (Qh zs (n*j) n)
theorem yw (n c:Nat)(zs:List Int): ∀j,(yB n c zs j).length=c
 | 0=>by simp[yB]
 | j+1=>by simp[yB,yw n c zs j]
theorem qef (n c:Nat)(zs:List Int): ∀j i,i<j→i<c→(yB n c zs j)[i]? =some (Qh zs (n*i) n)
 | j+1,i,h,hc=>by
  simp only[yB];by_cases e:i=j
  ·subst e;rw[List.getElem?_set_self (by rw[yw];exact hc)]
  ·rw[List.getElem?_set_ne (Ne.symm e)];exact qef n c zs j i (by omega) hc
theorem ju (n c:Nat)(zs:List Int):yB n c zs c=QU n c zs:=by
 apply List.ext_getElem?
 intro i;by_cases h:i<c
 ·rw[qef n c zs c i h h];simp[QU,h]
 ·rw[List.getElem?_eq_none (by rw[yw];omega),List.getElem?_eq_none (by simp[QU];omega)]
theorem ya (n c:Nat){zs:List Int}(D: ∀z∈zs,0≤z∧z≤255)(G:zs.length=n*c):Words (8*n) c (QU n c zs):=by
 refine⟨by simp[QU],fun x o=>?_⟩;simp only[QU,List.mem_map,List.mem_range]at o;obtain⟨i,q,rfl⟩:=o;have:n*i+n≤n*c:=by
  rw[←Nat.mul_succ];exact Nat.mul_le_mul_left n q
 exact QH D n (by omega)
theorem Holds8.slice {w:World}{v:Value}{zs:List Int}(h:Holds8 w v zs): ∃a o,v= .slice a zs.length o:=by
 obtain⟨a,o,e, -⟩:=h;exact⟨a,o,e⟩
theorem qbs (zs:List Int)(v:Value)(at_:Nat)(w:World)(h:Holds8 w v zs)(q: ∀z∈zs,0≤z∧z≤255)(D:at_+8≤zs.length)(o:zs.length≤4294967296):
  Calls Tryz.prog 90 #[v,.int .i64 (at_:Nat)] w fun e w'=>e= .returned (.tuple #[.int .u64 (Qh zs at_ 8),.int .i64 0])∧w'=w:=by
 have H:=hid (qgH zs v at_ w h q D o);go_enter Tryz.func90,Tryz.ntmps90
 go_wp2_with fail
 refine H.out.mono ?_;rintro e G ⟨rfl,rfl⟩;go_wp2
 exact Bp (results_tmp2 rfl _ _ _) rfl ⟨rfl,rfl⟩
theorem qeE (zs:List Int)(v:Value)(w:World)(h:Holds8 w v zs)(hz: ∀z∈zs,0≤z∧z≤255)(X:zs.length=128):
  Calls Tryz.prog 198 #[v] w fun e w'=>e= .returned (.tuple #[.agg (qi .u64 (QU 8 16 zs)),.int .i64 0])∧Below w.heap.size w w':=by
 obtain⟨a,ac,rfl⟩:=h.slice;obtain⟨D,ab⟩:=Ex w.heap.size;have H:=hid h;have HZ:=hid hz;have Y:=hid X;rw[X]at H⊢;clear h hz X;go_enter Tryz.func198,Tryz.ntmps198
 go_wp2_with fail
 refine qm ?_;intro W G;have hr:W.heap[D]? =some (.cells #[.int .u64 0,.int .u64 0,.int .u64 0,.int .u64 0,.int .u64 0,.int .u64 0,.int .u64 0,.int .u64 0,.int .u64 0,.int .u64 0,.int .u64 0,.int .u64 0,.int .u64 0,.int .u64 0,.int .u64 0,.int .u64 0] 252 (0,0)):=by
  rw[G];exact(Bh _ _ _ (by simp;omega)).trans (qe _ _ ab.symm)
 have q:W.heap[D+1]? =some (.cells (qi .u64 (yB 8 16 zs 0)) 252 (0,0)):=by
  rw[G];exact qe _ _ (by simp;omega)
 have I:Below w.heap.size w W:=by
  rw[G];exact((Below.refl w.heap.size w).alloc Nl _).alloc (by simp) _
 have af:D+1<W.heap.size:=(Ai q).1;clear G;have HR:=hid hr;have HV:=hid q;have HB:=hid I;clear hr q I;go_loopw [10] (fun i wr=> ∃j:Nat,i= .int .i64 j∧j≤16∧wr.heap[D+1]? =some (.cells (qi .u64 (yB 8 16 zs j)) 252 (0,0))∧But (D+1) W wr) (fun i _=>16 - (intOf i).toNat)
 case atStart=>exact⟨0,rfl,Nat.zero_le _,HV.out,But.refl _ _⟩
 case round=>
  obtain⟨j,rfl,hj,q,I⟩:=hrel;have ad:=I.size;have O:=hid q;have Z:=hid I;have V:=hid (HB.out.trans (I.below (by omega) HB.out.size));by_cases ae:j<16
  ·have c2:wr.cell? ⟨D+1,j,none⟩=some (.int .u64 (wd (yB 8 16 zs j) j)):=(qs q _).trans (yi (yw _ _ _ _) (by omega));have f2: ∀o,wr.frozen? ⟨D+1,o,none⟩=false:=(qO q).2;have e8:IntKind.i64.wrap (8*(j:Int))=((8*j:Nat):Int):=by rw[IntKind.wrap_i64];omega
   have J:=hid (qbs zs (.slice a 128 ac) (8*j) wr (Qc H.out V.out) HZ.out (by have:=Y.out;omega) (by have:=Y.out;omega));have e9:((8*j:Nat):Int)=8*(j:Int):=by omega
   have aa:8*(j:Int)≤128:=by omega
   rw[e9]at J;clear q I e8 e9;go_wp2_with fail
   refine J.out.mono ?_;rintro e2 w2 ⟨rfl,rfl⟩;go_wp2
   exact⟨⟨j+1,rfl,by omega,by rw[yB,←Qe];exact block_setCell O.out _,Z.out.set _ _⟩,by simp[intOf];omega⟩
  ·obtain rfl:j=16:=by omega
   have G:=ya 8 16 HZ.out Y.out;have U:=(I.block D (by omega) (by omega)).trans HR.out;rw[ju]at q;clear I O;go_wp2_with ((with_reducible show wpList _ _ _ (Oper.mk (some 23) _ _ _ _ _::_) _ _);refine wpList_load_row rfl 252 _ rfl (D+1) rfl _ _ _ _ q Tryz.underlying252 rfl (by rw[qf,G.1];kernel_rfl) ?_;refine wpList_store_row rfl 252 _ _ rfl D (qi .u64 (QU 8 16 zs)) rfl rfl 252 _ U (by rw[qf,G.1];kernel_rfl) (by rw[qf,G.1];rfl) qA ?_)
   exact Bp (qE rfl _ _ _ _ _ _ _ rfl (setRow_heap _ _ _ _ _ _ U) Tryz.underlying252 rfl (by rw[qf,G.1];kernel_rfl)) rfl ⟨rfl,below_setRow (V.out.mono (by omega)) (by omega) _⟩
theorem qbU (zs:List Int)(v:Value)(w:World)(h:Holds8 w v zs)(hz: ∀z∈zs,0≤z∧z≤255)(X:zs.length=128):
  Calls Tryz.prog 193 #[v] w fun e w'=>e= .returned (.tuple #[.agg (qi .u64 (QU 8 16 zs)),.int .i64 0])∧Below w.heap.size w w':=by
 obtain⟨a,ac,rfl⟩:=h.slice;obtain⟨D,ab⟩:=Ex w.heap.size;have H:=hid h;have HZ:=hid hz;have Y:=hid X;rw[X]at H⊢;clear h hz X;go_enter Tryz.func193,Tryz.ntmps193
 go_wp2_with fail
 refine qm ?_;intro W G;have hr:W.heap[D]? =some (.cells #[.int .u64 0,.int .u64 0,.int .u64 0,.int .u64 0,.int .u64 0,.int .u64 0,.int .u64 0,.int .u64 0,.int .u64 0,.int .u64 0,.int .u64 0,.int .u64 0,.int .u64 0,.int .u64 0,.int .u64 0,.int .u64 0] 252 (0,0)):=by
  rw[G];exact(Bh _ _ _ (by simp;omega)).trans (qe _ _ ab.symm)
 have q:W.heap[D+1]? =some (.cells (qi .u64 (yB 8 16 zs 0)) 252 (0,0)):=by
  rw[G];exact qe _ _ (by simp;omega)
 have I:Below w.heap.size w W:=by
  rw[G];exact((Below.refl w.heap.size w).alloc Nl _).alloc (by simp) _
 have af:D+1<W.heap.size:=(Ai q).1;clear G;have HR:=hid hr;have HV:=hid q;have HB:=hid I;clear hr q I;go_loopw [5] (fun i wr=> ∃j:Nat,i= .int .i64 j∧j≤16∧wr.heap[D+1]? =some (.cells (qi .u64 (yB 8 16 zs j)) 252 (0,0))∧But (D+1) W wr) (fun i _=>16 - (intOf i).toNat)
 case atStart=>exact⟨0,rfl,Nat.zero_le _,HV.out,But.refl _ _⟩
 case round=>
  obtain⟨j,rfl,hj,q,I⟩:=hrel;have ad:=I.size;have O:=hid q;have Z:=hid I;have V:=hid (HB.out.trans (I.below (by omega) HB.out.size));by_cases ae:j<16
  ·have c2:wr.cell? ⟨D+1,j,none⟩=some (.int .u64 (wd (yB 8 16 zs j) j)):=(qs q _).trans (yi (yw _ _ _ _) (by omega));have f2: ∀o,wr.frozen? ⟨D+1,o,none⟩=false:=(qO q).2;have e8:IntKind.i64.wrap (8*(j:Int))=((8*j:Nat):Int):=by rw[IntKind.wrap_i64];omega
   have J:=hid (qbf zs (.slice a 128 ac) (8*j) wr (Qc H.out V.out) HZ.out (by have:=Y.out;omega) (by have:=Y.out;omega));have e9:((8*j:Nat):Int)=8*(j:Int):=by omega
   have aa:8*(j:Int)≤128:=by omega
   rw[e9]at J;clear q I e8 e9;go_wp2_with fail
   refine J.out.mono ?_;rintro e2 w2 ⟨rfl,rfl⟩;go_wp2
   exact⟨⟨j+1,rfl,by omega,by rw[yB,←Qe];exact block_setCell O.out _,Z.out.set _ _⟩,by simp[intOf];omega⟩
  ·obtain rfl:j=16:=by omega
   have G:=ya 8 16 HZ.out Y.out;have U:=(I.block D (by omega) (by omega)).trans HR.out;rw[ju]at q;clear I O;go_wp2_with ((with_reducible show wpList _ _ _ (Oper.mk (some 23) _ _ _ _ _::_) _ _);refine wpList_load_row rfl 252 _ rfl (D+1) rfl _ _ _ _ q Tryz.underlying252 rfl (by rw[qf,G.1];kernel_rfl) ?_;refine wpList_store_row rfl 252 _ _ rfl D (qi .u64 (QU 8 16 zs)) rfl rfl 252 _ U (by rw[qf,G.1];kernel_rfl) (by rw[qf,G.1];rfl) qA ?_)
   exact Bp (qE rfl _ _ _ _ _ _ _ rfl (setRow_heap _ _ _ _ _ _ U) Tryz.underlying252 rfl (by rw[qf,G.1];kernel_rfl)) rfl ⟨rfl,below_setRow (V.out.mono (by omega)) (by omega) _⟩
def yF (L:List Int)(f:Nat→Int):Nat→List Int
 | 0=>L
 | j+1=>(yF L f j).set j (f j)
theorem yg (L:List Int)(f:Nat→Int): ∀j,(yF L f j).length=L.length
 | 0=>rfl
 | j+1=>by simp[yF,yg L f j]
theorem qeg (L:List Int)(f:Nat→Int): ∀j i,i<j→i<L.length→(yF L f j)[i]? =some (f i)
 | j+1,i,h,hc=>by
  simp only[yF];by_cases e:i=j
  ·subst e;rw[List.getElem?_set_self (by rw[yg];exact hc)]
  ·rw[List.getElem?_set_ne (Ne.symm e)];exact qeg L f j i (by omega) hc
theorem Yk (L:List Int)(f:Nat→Int): ∀j i,j≤i→wd (yF L f j) i=wd L i
 | 0,i,_=>rfl
 | j+1,i,h=>by
  have o:=Yk L f j i (by omega);simp only[yF];unfold wd at*;rw[Lg,List.getElem?_set_ne (by omega),←Lg];exact o
theorem jv (L:List Int)(f:Nat→Int):yF L f L.length=(List.range L.length).map f:=by
 apply List.ext_getElem?
 intro i;by_cases h:i<L.length
 ·rw[qeg L f _ i h h];simp[h]
 ·rw[List.getElem?_eq_none (by rw[yg];omega),List.getElem?_eq_none (by simp;omega)]
def Yq (k:IntKind)(iv:List Int)(n:Nat)(zs:List Int)(i:Nat):Int:=bits .xor k (wd iv i) (Qh zs (n*i) n)
def ym (k:IntKind)(iv:List Int)(n:Nat)(zs:List Int):List Int:=(List.range 8).map (Yq k iv n zs)
theorem Yp {k:IntKind}{N:Nat}(q: ∀z,k.wrap z=z%2^N)(D:List Int)(n:Nat)(zs:List Int):Words N 8 (ym k D n zs):=by
 refine⟨by simp[ym],fun x o=>?_⟩;simp only[ym,List.mem_map,List.mem_range]at o;obtain⟨i,G,rfl⟩:=o;exact Qb _ _ _ q _ _
theorem qeS (zs:List Int)(v:Value)(w:World)(h:Holds8 w v zs)(hz: ∀z∈zs,0≤z∧z≤255)(hl:zs.length=64):
  Calls Tryz.prog 183 #[v] w fun e w'=>e= .returned (.tuple #[.agg (qi .u64 (ym .u64 IVb 8 zs)),.int .i64 0])∧Below w.heap.size w w':=by
 obtain⟨a,ah,rfl⟩:=h.slice;obtain⟨O,ag⟩:=Ex w.heap.size;have H:=hid h;have HZ:=hid hz;have HL:=hid hl;rw[hl]at H⊢;clear h hz hl;go_enter Tryz.func183,Tryz.ntmps183
 go_wp2_with fail
 refine(qfZ _).mono ?_;rintro e1 w1 ⟨rfl,J⟩;have ac:=(J.block O (by simp;omega)).trans (qe _ _ ag.symm);have ae:O+1≤w1.heap.size:=by have:=J.size;simp at this;omega
 have X:Below w.heap.size w w1:=((Below.refl w.heap.size w).alloc Nl _).trans (J.mono (by simp));clear J;go_wp2_with fail
 refine qm ?_;intro W D;obtain⟨I,U⟩:=Ex w1.heap.size;have hr:W.heap[O]? =some (.cells #[.int .u64 0,.int .u64 0,.int .u64 0,.int .u64 0,.int .u64 0,.int .u64 0,.int .u64 0,.int .u64 0] 274 (0,0)):=by
  rw[D];exact(Bh _ _ _ (by omega)).trans ac
 have q:W.heap[I]? =some (.cells (qi .u64 (yF IVb (Yq .u64 IVb 8 zs) 0)) 274 (0,0)):=by
  rw[D];exact qe _ _ U.symm
 have G:Below w.heap.size w W:=by
  rw[D];exact X.alloc (by omega) _
 rw[U];have ai:O+1≤I:=by omega
 clear D ac ae X U;have al:I<W.heap.size:=(Ai q).1;have HR:=hid hr;have HV:=hid q;have HB:=hid G;clear hr q G;go_loopw [13] (fun i wr=> ∃j:Nat,i= .int .i64 j∧j≤8∧wr.heap[I]? =some (.cells (qi .u64 (yF IVb (Yq .u64 IVb 8 zs) j)) 274 (0,0))∧But I W wr) (fun i _=>8 - (intOf i).toNat)
 case atStart=>exact⟨0,rfl,Nat.zero_le _,HV.out,But.refl _ _⟩
 case round=>
  obtain⟨j,rfl,hj,q,G⟩:=hrel;have aj:=G.size;have Z:=hid q;have ad:=hid G;have ab:=hid (HB.out.trans (G.below (by omega) HB.out.size));have am:I<wr.heap.size:=(Ai q).1;by_cases ak:j<8
  ·have c2:wr.cell? ⟨I,j,none⟩=some (.int .u64 (wd IVb j)):=by
    rw[qs q,yi (n:=8) (by rw[yg];rfl) (by omega),Yk _ _ _ _ Nl]
   have f2: ∀o,wr.frozen? ⟨I,o,none⟩=false:=(qO q).2;have e8:IntKind.i64.wrap (8*(j:Int))=((8*j:Nat):Int):=by rw[IntKind.wrap_i64];omega
   have Y:=hid (qbs zs (.slice a 64 ah) (8*j) wr (Qc H.out ab.out) HZ.out (by have:=HL.out;omega) (by have:=HL.out;omega));have e9:((8*j:Nat):Int)=8*(j:Int):=by omega
   have af:8*(j:Int)≤64:=by omega
   rw[e9]at Y;clear q G e8 e9;go_wp2_with fail
   refine Y.out.mono ?_;rintro e2 w2 ⟨rfl,rfl⟩;go_wp2
   exact⟨⟨j+1,rfl,by omega,by rw[yF,←Qe];exact block_setCell Z.out _,ad.out.set _ _⟩,by simp[intOf];omega⟩
  ·obtain rfl:j=8:=by omega
   have D:=Yp (k:= .u64) (N:=64) (fun z=>IntKind.wrap_u64 z) IVb 8 zs;have aa:=(G.block O (by omega) (by omega)).trans HR.out;have V:(yF IVb (Yq .u64 IVb 8 zs) 8)=ym .u64 IVb 8 zs:=jv _ _;rw[V]at q;clear G Z V;go_wp2_with ((with_reducible show wpList _ _ _ (Oper.mk (some 30) _ _ _ _ _::_) _ _);refine wpList_load_row rfl 274 _ rfl I rfl _ _ _ _ q Tryz.underlying274 rfl (by rw[qf,D.1];kernel_rfl) ?_;refine wpList_store_row rfl 274 _ _ rfl O (qi .u64 (ym .u64 IVb 8 zs)) rfl rfl 274 _ aa (by rw[qf,D.1];kernel_rfl) (by rw[qf,D.1];rfl) qA ?_)
   exact Bp (qE rfl _ _ _ _ _ _ _ rfl (setRow_heap _ _ _ _ _ _ aa) Tryz.underlying274 rfl (by rw[qf,D.1];kernel_rfl)) rfl ⟨rfl,below_setRow (ab.out.mono (by omega)) (by omega) _⟩
theorem qe1 (zs:List Int)(v:Value)(w:World)(h:Holds8 w v zs)(hz: ∀z∈zs,0≤z∧z≤255)(hl:zs.length=64):
  Calls Tryz.prog 205 #[v] w fun e w'=>e= .returned (.tuple #[.agg (qi .u64 (ym .u64 IVb 8 zs)),.int .i64 0])∧Below w.heap.size w w':=by
 obtain⟨a,af,rfl⟩:=h.slice;obtain⟨U,ae⟩:=Ex w.heap.size;have H:=hid h;have HZ:=hid hz;have HL:=hid hl;rw[hl]at H⊢;clear h hz hl;go_enter Tryz.func205,Tryz.ntmps205
 go_wp2_with fail
 refine qm ?_;intro W G;obtain⟨q,Y⟩:=Ex (U+1);have hr:W.heap[U]? =some (.cells #[.int .u64 0,.int .u64 0,.int .u64 0,.int .u64 0,.int .u64 0,.int .u64 0,.int .u64 0,.int .u64 0] 274 (0,0)):=by
  rw[G];exact(Bh _ _ _ (by simp;omega)).trans (qe _ _ ae.symm)
 have D:W.heap[q]? =some (.cells (qi .u64 (yF [0,0,0,0,0,0,0,0] (Yq .u64 IVb 8 zs) 0)) 274 (0,0)):=by
  rw[G];exact qe _ _ (by simp;omega)
 have I:Below w.heap.size w W:=by
  rw[G];exact((Below.refl w.heap.size w).alloc Nl _).alloc (by simp) _
 rw[Y];have ak:U+1≤q:=by omega
 clear G Y;have am:q<W.heap.size:=(Ai D).1;have HR:=hid hr;have HV:=hid D;have HB:=hid I;clear hr D I;go_loopw [5] (fun i wr=> ∃j:Nat,i= .int .i64 j∧j≤8∧wr.heap[q]? =some (.cells (qi .u64 (yF [0,0,0,0,0,0,0,0] (Yq .u64 IVb 8 zs) j)) 274 (0,0))∧But q W wr) (fun i _=>8 - (intOf i).toNat)
 case atStart=>exact⟨0,rfl,Nat.zero_le _,HV.out,But.refl _ _⟩
 case round=>
  obtain⟨j,rfl,hj,D,I⟩:=hrel;have al:=I.size;have Z:=hid D;have ac:=hid I;have ab:=hid (HB.out.trans (I.below (by omega) HB.out.size));have ai:q<wr.heap.size:=(Ai D).1;by_cases ag:j<8
  ·have c2:wr.cell? ⟨q,j,none⟩=some (.int .u64 (wd [0,0,0,0,0,0,0,0] j)):=by
    rw[qs D,yi (n:=8) (by rw[yg];rfl) (by omega),Yk _ _ _ _ Nl]
   have f2: ∀o,wr.frozen? ⟨q,o,none⟩=false:=(qO D).2;have e8:IntKind.i64.wrap (8*(j:Int))=((8*j:Nat):Int):=by rw[IntKind.wrap_i64];omega
   have X:=hid (qbf zs (.slice a 64 af) (8*j) wr (Qc H.out ab.out) HZ.out (by have:=HL.out;omega) (by have:=HL.out;omega));have e9:((8*j:Nat):Int)=8*(j:Int):=by omega
   have ad:8*(j:Int)≤64:=by omega
   rw[e9]at X;clear D I e8 e9;go_wp2_with fail
   refine X.out.mono ?_;rintro e2 w2 ⟨rfl,rfl⟩;go_wp2_with fail
   refine(qci j ag _).mono ?_;rintro e3 w3 ⟨rfl,O⟩;have J:=(O.block q ai).trans Z.out;have aj:=hid J;have ah:=hid (ac.out.trans (But.of_below (b:=q) O));have c3:w3.cell? ⟨q,j,none⟩=some (.int .u64 (wd [0,0,0,0,0,0,0,0] j)):=by
    rw[qs J,yi (n:=8) (by rw[yg];rfl) (by omega),Yk _ _ _ _ Nl]
   have f3: ∀o,w3.frozen? ⟨q,o,none⟩=false:=(qO J).2;clear c2 f2 O J;go_wp2
   exact⟨⟨j+1,rfl,by omega,by rw[yF,←Qe];exact block_setCell aj.out _,ah.out.set _ _⟩,by simp[intOf];omega⟩
  ·obtain rfl:j=8:=by omega
   have G:=Yp (k:= .u64) (N:=64) (fun z=>IntKind.wrap_u64 z) IVb 8 zs;have aa:=(I.block U (by omega) (by omega)).trans HR.out;have V:(yF [0,0,0,0,0,0,0,0] (Yq .u64 IVb 8 zs) 8)=ym .u64 IVb 8 zs:=jv _ _;rw[V]at D;clear I Z V;go_wp2_with ((with_reducible show wpList _ _ _ (Oper.mk (some 29) _ _ _ _ _::_) _ _);refine wpList_load_row rfl 274 _ rfl q rfl _ _ _ _ D Tryz.underlying274 rfl (by rw[qf,G.1];kernel_rfl) ?_;refine wpList_store_row rfl 274 _ _ rfl U (qi .u64 (ym .u64 IVb 8 zs)) rfl rfl 274 _ aa (by rw[qf,G.1];kernel_rfl) (by rw[qf,G.1];rfl) qA ?_)
   exact Bp (qE rfl _ _ _ _ _ _ _ rfl (setRow_heap _ _ _ _ _ _ aa) Tryz.underlying274 rfl (by rw[qf,G.1];kernel_rfl)) rfl ⟨rfl,below_setRow (ab.out.mono (by omega)) (by omega) _⟩
theorem qhD (zs:List Int)(v:Value)(at_:Nat)(w:World)(h:Holds8 w v zs)(D: ∀z∈zs,0≤z∧z≤255)(q:at_+4≤zs.length)(X:zs.length≤4294967296):
  Calls Tryz.prog 122 #[v,.int .i64 (at_:Nat),.int .i64 4] w fun e w'=>e= .returned (.tuple #[.int .u64 (Qh zs at_ 4),.int .i64 0])∧w'=w:=by
 obtain⟨a,I,rfl,h⟩:=h;obtain⟨b,off,rfl,Y,o⟩:=h.resolve_left (fun e=>by rw[e]at q;simp at q);have G:=hid o;clear h o;go_enter Tryz.func122,Tryz.ntmps122
 go_wp2_with fail
 go_loopw [8,25] (fun s i wr=> ∃k:Nat,s= .int .u64 (Qh zs at_ k)∧i= .int .i64 k∧w=wr∧k≤4) (fun _ i _=>4 - (intOf i).toNat)
 case atStart=>exact⟨0,rfl,rfl,rfl,by omega⟩
 case round=>
  obtain⟨k,rfl,rfl,rfl,O⟩:=hrel;by_cases J:k<4
  ·have V:=G.out (at_+k) (by omega);have U:=orZ (Qh zs at_ k) (qr zs (at_+k)) k (by omega) (QH D k (by omega)) (qU D (by omega)).2;go_wp2
   exact⟨⟨k+1,rfl,rfl,by trivial,by omega⟩,by simp[intOf];omega⟩
  ·obtain rfl:k=4:=by omega
   go_wp2
   exact Bp (results_tmp2 (fn:=Tryz.f122) (t:=6) (u:=7) rfl _ _ _) rfl ⟨rfl,rfl⟩
theorem qfn (zs:List Int)(v:Value)(at_:Nat)(w:World)(h:Holds8 w v zs)(G: ∀z∈zs,0≤z∧z≤255)(D:at_+4≤zs.length)(I:zs.length≤4294967296):
  Calls Tryz.prog 216 #[v,.int .i64 (at_:Nat)] w fun e w'=>e= .returned (.tuple #[.int .u32 (Qh zs at_ 4),.int .i64 0])∧w'=w:=by
 have H:=hid (qhD zs v at_ w h G D I);have o:=QH G (at_:=at_) 4 D;simp only[Nat.reduceMul,Int.reducePow]at o;obtain⟨x,q⟩:=Ex (Qh zs at_ 4);rw[q]at H o⊢;obtain⟨J,O⟩:=o;clear q;go_enter Tryz.func216,Tryz.ntmps216
 go_wp2_with fail
 refine H.out.mono ?_;rintro e U ⟨rfl,rfl⟩;go_wp2
 exact Bp (results_tmp2 rfl _ _ _) rfl ⟨rfl,rfl⟩
theorem qdJ (n:Nat)(a:Option Addr)(o:Nat)(w:World):Calls Tryz.prog 200 #[.slice a n o,.int .i64 n] w fun e w'=>e= .returned (.int .i64 0)∧w'=w:=by
 go_enter Tryz.func200,Tryz.ntmps200
 go_wp2
 go_ret
 exact⟨rfl,rfl⟩
theorem Jh (c:Nat)(hc:c≤16)(D:Nat)(T:TypeId)(zs:List Int)(v:Value)(w:World)(h:Holds8 w v zs)(Z: ∀z∈zs,0≤z∧z≤255)(U:zs.length=4*c)(q:w.heap[D]? =some (.cells (qi .u32 (yB 4 c zs 0)) T (0,0)))
  (I: ∀w',But D w w'→Holds8 w' v zs):
  Calls Tryz.prog 201 #[.slice (some ⟨D,0,none⟩) c c,v] w fun e w'=>e= .returned (.tuple #[])∧w'.heap[D]? =some (.cells (qi .u32 (QU 4 c zs)) T (0,0))∧But D w w':=by
 have HN:=hid I;have HZ:=hid Z;have HL:=hid U;have HV:=hid q;clear h Z U q I;go_enter Tryz.func201,Tryz.ntmps201
 go_wp2_with fail
 go_loopw [7] (fun i wr=> ∃j:Nat,i= .int .i64 j∧j≤c∧wr.heap[D]? =some (.cells (qi .u32 (yB 4 c zs j)) T (0,0))∧But D w wr) (fun i _=>c - (intOf i).toNat)
 case atStart=>exact⟨0,rfl,Nat.zero_le _,HV.out,But.refl _ _⟩
 case round=>
  obtain⟨j,rfl,hj,q,G⟩:=hrel;have Y:=hid q;have J:=hid G;by_cases X:j<c
  ·have c2:wr.cell? ⟨D,j,none⟩=some (.int .u32 (wd (yB 4 c zs j) j)):=(qs q _).trans (yi (yw _ _ _ _) X);have f2: ∀o,wr.frozen? ⟨D,o,none⟩=false:=(qO q).2;have e9:((4*j:Nat):Int)=4*(j:Int):=by omega
   have O:=hid (qfn zs v (4*j) wr (HN.out wr G) HZ.out (by have:=HL.out;omega) (by have:=HL.out;omega));have V:4*(j:Int)≤64:=by omega
   rw[e9]at O;clear q G e9;go_wp2_with fail
   refine O.out.mono ?_;rintro e2 w2 ⟨rfl,rfl⟩;go_wp2
   exact⟨⟨j+1,rfl,by omega,by rw[yB,←Qe];exact block_setCell Y.out _,J.out.set _ _⟩,by simp[intOf];omega⟩
  ·obtain rfl:j=c:=by omega
   rw[ju]at q;have aa:=hid q;clear q G;go_wp2
   exact bodyPost_end (results_none rfl _ _ _) rfl ⟨rfl,aa.out,J.out⟩
theorem val4 (zs:List Int)(i:Nat):Qh zs i 4=qr zs i+qr zs (i+1)*256+qr zs (i+2)*65536+qr zs (i+3)*16777216:=by
 simp only[Qh,Nat.reduceMul,Int.reducePow,Nat.add_zero];omega
theorem qao (zs:List Int)(v:Value)(at_:Nat)(w:World)(h:Holds8 w v zs)(q: ∀z∈zs,0≤z∧z≤255)(D:at_+4≤zs.length)(hm:zs.length≤4294967296):
  Calls Tryz.prog 210 #[v,.int .i64 (at_:Nat)] w fun e w'=>e= .returned (.int .u32 (Qh zs at_ 4))∧ ∃m,w'=w.drewN m:=by
 obtain⟨a,O,rfl,h⟩:=h;obtain⟨b,off,rfl,h1,o⟩:=h.resolve_left (fun e=>by rw[e]at D;simp at D);have U:=o at_ (by omega);have J:=o (at_+1) (by omega);have I:=o (at_+2) (by omega);have G:=o (at_+3) (by omega);obtain⟨-,Y,x1⟩:=qU q (show at_<zs.length by omega);obtain⟨-,X,V⟩:=qU q (show at_+1<zs.length by omega);obtain⟨-,z0,z1⟩:=qU q (show at_+2<zs.length by omega);obtain⟨-,t0,t1⟩:=qU q (show at_+3<zs.length by omega);rw[val4];generalize qr zs at_=x at*;generalize qr zs (at_+1)=y at*;generalize qr zs (at_+2)=z at*;generalize qr zs (at_+3)=t at*;have Z:IntKind.i64.wrap ((at_:Int)+1)=((at_+1:Nat):Int):=by rw[IntKind.wrap_i64];omega
 have e2:IntKind.i64.wrap ((at_:Int)+2)=((at_+2:Nat):Int):=by rw[IntKind.wrap_i64];omega
 have e3:IntKind.i64.wrap ((at_:Int)+3)=((at_+3:Nat):Int):=by rw[IntKind.wrap_i64];omega
 have l0:at_<zs.length:=by omega
 have l1:at_+1<zs.length:=by omega
 have l2:at_+2<zs.length:=by omega
 have l3:at_+3<zs.length:=by omega
 clear h o q;go_enter Tryz.func210,Tryz.ntmps210
 go_wp2_with fail
 go_quiet (fail)
 go_wp2
 go_ret
 exact⟨rfl,nq,rfl⟩
theorem qeF (zs:List Int)(v:Value)(w:World)(h:Holds8 w v zs)(hz: ∀z∈zs,0≤z∧z≤255)(V:zs.length=64):
  Calls Tryz.prog 203 #[v] w fun e w'=>e= .returned (.tuple #[.agg (qi .u32 (QU 4 16 zs)),.int .i64 0])∧Below w.heap.size w w':=by
 obtain⟨a,O,rfl⟩:=h.slice;obtain⟨q,Z⟩:=Ex w.heap.size;have H:=hid h;have HZ:=hid hz;have HL:=hid V;rw[V]at H⊢;clear h hz V;go_enter Tryz.func203,Tryz.ntmps203
 go_wp2_with fail
 refine(qdJ 64 a O _).mono ?_;rintro e1 J ⟨rfl,o⟩;have hr:J.heap[q]? =some (.cells #[.int .u32 0,.int .u32 0,.int .u32 0,.int .u32 0,.int .u32 0,.int .u32 0,.int .u32 0,.int .u32 0,.int .u32 0,.int .u32 0,.int .u32 0,.int .u32 0,.int .u32 0,.int .u32 0,.int .u32 0,.int .u32 0] 298 (0,0)):=by
  rw[o];exact(Bh _ _ _ (by simp;omega)).trans (qe _ _ Z.symm)
 have hv:J.heap[q+1]? =some (.cells (qi .u32 (yB 4 16 zs 0)) 298 (0,0)):=by
  rw[o];exact qe _ _ (by simp;omega)
 have hB:Below w.heap.size w J:=by
  rw[o];exact((Below.refl w.heap.size w).alloc Nl _).alloc (by simp) _
 clear o;have G:=hid hB;have X:=hid hr;have HV:=hid hv;clear hr hv hB;go_wp2_with fail
 refine(Jh 16 (by decide) (q+1) 298 zs (.slice a 64 O) J (Qc H.out G.out) HZ.out HL.out HV.out (fun w' Y=>Qc H.out (G.out.trans (Y.below (by omega) G.out.size)))).mono ?_;rintro e2 w2 ⟨rfl,ab,D⟩
 have I:=ya 4 16 HZ.out HL.out;have U:=(D.block q (by have:=(Ai X.out).1;omega) (by omega)).trans X.out;have aa:=hid (G.out.trans (D.below (by omega) G.out.size));clear D;go_wp2_with ((with_reducible show wpList _ _ _ (Oper.mk (some 15) _ _ _ _ _::_) _ _);refine wpList_load_row rfl 298 _ rfl (q+1) rfl _ _ _ _ ab Tryz.underlying298 rfl (by rw[qf,I.1];kernel_rfl) ?_;refine wpList_store_row rfl 298 _ _ rfl q (qi .u32 (QU 4 16 zs)) rfl rfl 298 _ U (by rw[qf,I.1];kernel_rfl) (by rw[qf,I.1];rfl) qA ?_)
 exact Bp (qE rfl _ _ _ _ _ _ _ rfl (setRow_heap _ _ _ _ _ _ U) Tryz.underlying298 rfl (by rw[qf,I.1];kernel_rfl)) rfl ⟨rfl,below_setRow (aa.out.mono (by omega)) (by omega) _⟩
theorem qbV (zs:List Int)(v:Value)(w:World)(h:Holds8 w v zs)(hz: ∀z∈zs,0≤z∧z≤255)(X:zs.length=64):
  Calls Tryz.prog 195 #[v] w fun e w'=>e= .returned (.tuple #[.agg (qi .u32 (QU 4 16 zs)),.int .i64 0])∧Below w.heap.size w w':=by
 obtain⟨a,ac,rfl⟩:=h.slice;obtain⟨q,ab⟩:=Ex w.heap.size;have H:=hid h;have HZ:=hid hz;have Y:=hid X;rw[X]at H⊢;clear h hz X;go_enter Tryz.func195,Tryz.ntmps195
 go_wp2_with fail
 refine qm ?_;intro W D;have hr:W.heap[q]? =some (.cells #[.int .u32 0,.int .u32 0,.int .u32 0,.int .u32 0,.int .u32 0,.int .u32 0,.int .u32 0,.int .u32 0,.int .u32 0,.int .u32 0,.int .u32 0,.int .u32 0,.int .u32 0,.int .u32 0,.int .u32 0,.int .u32 0] 298 (0,0)):=by
  rw[D];exact(Bh _ _ _ (by simp;omega)).trans (qe _ _ ab.symm)
 have G:W.heap[q+1]? =some (.cells (qi .u32 (yB 4 16 zs 0)) 298 (0,0)):=by
  rw[D];exact qe _ _ (by simp;omega)
 have I:Below w.heap.size w W:=by
  rw[D];exact((Below.refl w.heap.size w).alloc Nl _).alloc (by simp) _
 have af:q+1<W.heap.size:=(Ai G).1;clear D;have HR:=hid hr;have HV:=hid G;have HB:=hid I;clear hr G I;go_loopw [5] (fun i wr=> ∃j:Nat,i= .int .i64 j∧j≤16∧wr.heap[q+1]? =some (.cells (qi .u32 (yB 4 16 zs j)) 298 (0,0))∧But (q+1) W wr) (fun i _=>16 - (intOf i).toNat)
 case atStart=>exact⟨0,rfl,Nat.zero_le _,HV.out,But.refl _ _⟩
 case round=>
  obtain⟨j,rfl,hj,G,I⟩:=hrel;have ad:=I.size;have O:=hid G;have Z:=hid I;have V:=hid (HB.out.trans (I.below (by omega) HB.out.size));by_cases ae:j<16
  ·have e9:((4*j:Nat):Int)=4*(j:Int):=by omega
   have J:=hid (qao zs (.slice a 64 ac) (4*j) wr (Qc H.out V.out) HZ.out (by have:=Y.out;omega) (by have:=Y.out;omega));have aa:4*(j:Int)≤64:=by omega
   rw[e9]at J;clear I e9;go_wp2_with fail
   refine J.out.mono ?_;rintro e2 w2 ⟨rfl,m,rfl⟩;have c2:(wr.drewN m).cell? ⟨q+1,j,none⟩=some (.int .u32 (wd (yB 4 16 zs j) j)):=(qs (W:=wr.drewN m) G _).trans (yi (yw _ _ _ _) (by omega));have f2: ∀o,(wr.drewN m).frozen? ⟨q+1,o,none⟩=false:=(qO (W:=wr.drewN m) G).2;go_wp2
   exact⟨⟨j+1,rfl,by omega,by rw[yB,←Qe];exact block_setCell (w:=wr.drewN m) O.out _,(Z.out.drewN m).set _ _⟩,by simp[intOf];omega⟩
  ·obtain rfl:j=16:=by omega
   have D:=ya 4 16 HZ.out Y.out;have U:=(I.block q (by omega) (by omega)).trans HR.out;rw[ju]at G;clear I O;go_wp2_with ((with_reducible show wpList _ _ _ (Oper.mk (some 26) _ _ _ _ _::_) _ _);refine wpList_load_row rfl 298 _ rfl (q+1) rfl _ _ _ _ G Tryz.underlying298 rfl (by rw[qf,D.1];kernel_rfl) ?_;refine wpList_store_row rfl 298 _ _ rfl q (qi .u32 (QU 4 16 zs)) rfl rfl 298 _ U (by rw[qf,D.1];kernel_rfl) (by rw[qf,D.1];rfl) qA ?_)
   exact Bp (qE rfl _ _ _ _ _ _ _ rfl (setRow_heap _ _ _ _ _ _ U) Tryz.underlying298 rfl (by rw[qf,D.1];kernel_rfl)) rfl ⟨rfl,below_setRow (V.out.mono (by omega)) (by omega) _⟩
theorem qf9 (n c:Nat)(zs:List Int){i:Nat}(o:i<c):wd (QU n c zs) i=Qh zs (n*i) n:=by
 simp[wd,QU,Lg,o]
theorem qeT (zs:List Int)(v:Value)(w:World)(h:Holds8 w v zs)(hz: ∀z∈zs,0≤z∧z≤255)(hl:zs.length=32):
  Calls Tryz.prog 186 #[v] w fun e w'=>e= .returned (.tuple #[.agg (qi .u32 (ym .u32 IVs 4 zs)),.int .i64 0])∧Below w.heap.size w w':=by
 obtain⟨a,ah,rfl⟩:=h.slice;obtain⟨q,ar⟩:=Ex w.heap.size;have H:=hid h;have HZ:=hid hz;have HL:=hid hl;rw[hl]at H⊢;clear h hz hl;go_enter Tryz.func186,Tryz.ntmps186
 go_wp2_with fail
 refine(qdJ 32 a ah _).mono ?_;rintro e1 w1 ⟨rfl,X⟩;have ae:w1.heap[q]? =some (.cells #[.int .u32 0,.int .u32 0,.int .u32 0,.int .u32 0,.int .u32 0,.int .u32 0,.int .u32 0,.int .u32 0] 284 (0,0)):=by
  rw[X];exact qe _ _ ar.symm
 have ag:Below w.heap.size w w1:=by
  rw[X];exact(Below.refl w.heap.size w).alloc Nl _
 have am:w1.heap.size=q+1:=by rw[X];simp;omega
 clear X;go_wp2_with fail
 have ai:(w1.alloc (.cells #[.int .u32 0,.int .u32 0,.int .u32 0,.int .u32 0,.int .u32 0,.int .u32 0,.int .u32 0,.int .u32 0] 284 (0,0))).heap[q+1]? =some (.cells (qi .u32 (yB 4 8 zs 0)) 284 (0,0)):=qe _ _ am.symm;have D:=ag.alloc (by omega) (.cells #[.int .u32 0,.int .u32 0,.int .u32 0,.int .u32 0,.int .u32 0,.int .u32 0,.int .u32 0,.int .u32 0] 284 (0,0));refine(Jh 8 (by decide) (q+1) 284 zs (.slice a 32 ah) _ (Qc H.out D) HZ.out HL.out ai (fun w' Z=>Qc H.out (D.trans (Z.below (by omega) D.size)))).mono ?_;rintro e2 w2 ⟨rfl,ac,Y⟩
 have an:=(Y.block q (by simp;omega) (by omega)).trans ((Bh _ _ _ (by omega)).trans ae);have U:=D.trans (Y.below (by omega) D.size);have ak:q+1<w2.heap.size:=(Ai ac).1;clear Y ae ag ai D am;go_wp2_with fail
 refine(qfY _).mono ?_;rintro e3 w3 ⟨rfl,V⟩;have ab:=(V.block (q+1) ak).trans ac;have af:=(V.block q (by omega)).trans an;have ao:=U.trans (V.mono U.size);have ap:q+1<w3.heap.size:=(Ai ab).1;clear V ac an U ak;go_wp2_with fail
 refine qm ?_;intro W I;obtain⟨O,aa⟩:=Ex w3.heap.size;have hr:W.heap[q]? =some (.cells #[.int .u32 0,.int .u32 0,.int .u32 0,.int .u32 0,.int .u32 0,.int .u32 0,.int .u32 0,.int .u32 0] 284 (0,0)):=by rw[I];exact(Bh _ _ _ (by omega)).trans af
 have hp:W.heap[q+1]? =some (.cells (qi .u32 (QU 4 8 zs)) 284 (0,0)):=by rw[I];exact(Bh _ _ _ (by omega)).trans ab
 have G:W.heap[O]? =some (.cells (qi .u32 (yF IVs (Yq .u32 IVs 4 zs) 0)) 284 (0,0)):=by rw[I];exact qe _ _ aa.symm
 have J:Below w.heap.size w W:=by rw[I];exact ao.alloc (by omega) _
 rw[aa];have aw:q+1<O:=by omega
 have ax:O<W.heap.size:=(Ai G).1;clear I af ab ao ap aa;have HR:=hid hr;have HP:=hid hp;have HV:=hid G;have HB:=hid J;clear hr hp G J;go_loopw [18] (fun i wr=> ∃j:Nat,i= .int .i64 j∧j≤8∧wr.heap[O]? =some (.cells (qi .u32 (yF IVs (Yq .u32 IVs 4 zs) j)) 284 (0,0))∧But O W wr) (fun i _=>8 - (intOf i).toNat)
 case atStart=>exact⟨0,rfl,Nat.zero_le _,HV.out,But.refl _ _⟩
 case round=>
  obtain⟨j,rfl,hj,G,J⟩:=hrel;have ay:=J.size;have aj:=hid G;have aq:=hid J;have av:=hid (HB.out.trans (J.below (by omega) HB.out.size));have az:O<wr.heap.size:=(Ai G).1;by_cases au:j<8
  ·have c2:wr.cell? ⟨O,j,none⟩=some (.int .u32 (wd IVs j)):=by
    rw[qs G,yi (n:=8) (by rw[yg];rfl) (by omega),Yk _ _ _ _ Nl]
   have c1:wr.cell? ⟨q+1,j,none⟩=some (.int .u32 (Qh zs (4*j) 4)):=by
    rw[qs ((J.block (q+1) (by omega) (by omega)).trans HP.out),yi (n:=8) (by simp[QU]) (by omega),qf9 _ _ _ au]
   have f2: ∀o,wr.frozen? ⟨O,o,none⟩=false:=(qO G).2;have q1:q+1<wr.heap.size:=by omega
   clear G J;go_wp2_with fail
   refine qj (by dsimp only[List.dropLast]) (by rfl) (by rfl) (by kernel_rfl) (by kernel_rfl) (by kernel_rfl) (by kernel_rfl) ?_;repeat(go_big_quiet_step (fail))
   refine wpQuiet_nil ?_;intro _ Z;obtain⟨n1,rfl⟩:=Z;go_wp2
   exact⟨⟨j+1,rfl,by omega,by rw[yF,←Qe];exact block_setCell (w:=wr.drewN n1) aj.out _,(aq.out.drewN n1).set _ _⟩,by simp[intOf];omega⟩
  ·obtain rfl:j=8:=by omega
   have I:=Yp (k:= .u32) (N:=32) (fun z=>IntKind.wrap_u32 z) IVs 4 zs;have al:=(J.block q (by omega) (by omega)).trans HR.out;have ad:(yF IVs (Yq .u32 IVs 4 zs) 8)=ym .u32 IVs 4 zs:=jv _ _;rw[ad]at G;clear J aj ad;go_wp2_with ((with_reducible show wpList _ _ _ (Oper.mk (some 30) _ _ _ _ _::_) _ _);refine wpList_load_row rfl 284 _ rfl (O) rfl _ _ _ _ G Tryz.underlying284 rfl (by rw[qf,I.1];kernel_rfl) ?_;refine wpList_store_row rfl 284 _ _ rfl q (qi .u32 (ym .u32 IVs 4 zs)) rfl rfl 284 _ al (by rw[qf,I.1];kernel_rfl) (by rw[qf,I.1];rfl) qA ?_)
   exact Bp (qE rfl _ _ _ _ _ _ _ rfl (setRow_heap _ _ _ _ _ _ al) Tryz.underlying284 rfl (by rw[qf,I.1];kernel_rfl)) rfl ⟨rfl,below_setRow (av.out.mono (by omega)) (by omega) _⟩
theorem qe2 (zs:List Int)(v:Value)(w:World)(h:Holds8 w v zs)(hz: ∀z∈zs,0≤z∧z≤255)(hl:zs.length=32):
  Calls Tryz.prog 206 #[v] w fun e w'=>e= .returned (.tuple #[.agg (qi .u32 (ym .u32 IVs 4 zs)),.int .i64 0])∧Below w.heap.size w w':=by
 obtain⟨a,ag,rfl⟩:=h.slice;obtain⟨q,af⟩:=Ex w.heap.size;have H:=hid h;have HZ:=hid hz;have HL:=hid hl;rw[hl]at H⊢;clear h hz hl;go_enter Tryz.func206,Tryz.ntmps206
 go_wp2_with fail
 refine(qbh _).mono ?_;rintro e3 w3 ⟨rfl,J⟩;have V:=(J.block q (by simp;omega)).trans ((Bh _ _ _ (by simp;omega)).trans (qe _ _ af.symm));have O:=(J.block (q+1) (by simp;omega)).trans (qe _ _ (by simp;omega));have aa:Below w.heap.size w w3:=(((Below.refl w.heap.size w).alloc Nl _).alloc (by simp) _).trans (J.mono (by simp;omega));have ab:q+1<w3.heap.size:=by have:=J.size;simp at this;omega
 clear J;go_wp2_with ((with_reducible show wpList _ _ _ (Oper.mk none (Op.store 284 _ _) _ _ _ _::_) _ _);refine wpList_store_row rfl 284 _ _ rfl (q+1) #[.int .u32 1779033703,.int .u32 3144134277,.int .u32 1013904242,.int .u32 2773480762,.int .u32 1359893119,.int .u32 2600822924,.int .u32 528734635,.int .u32 1541459225] rfl rfl 284 _ O (by kernel_rfl) (by kernel_rfl) (by kernel_rfl) ?_)
 refine qm ?_;intro W G;have hr:W.heap[q]? =some (.cells #[.int .u32 0,.int .u32 0,.int .u32 0,.int .u32 0,.int .u32 0,.int .u32 0,.int .u32 0,.int .u32 0] 284 (0,0)):=by rw[G];exact(setRow_other _ _ _ _ (by omega)).trans V
 have D:W.heap[q+1]? =some (.cells (qi .u32 (yF IVs (Yq .u32 IVs 4 zs) 0)) 284 (0,0)):=by rw[G];exact setRow_heap _ _ _ _ _ _ O
 have I:Below w.heap.size w W:=by rw[G];exact below_setRow aa (by omega) _
 have ai:q+1<W.heap.size:=(Ai D).1;clear G V O aa ab;have HR:=hid hr;have HV:=hid D;have HB:=hid I;clear hr D I;go_loopw [5] (fun i wr=> ∃j:Nat,i= .int .i64 j∧j≤8∧wr.heap[q+1]? =some (.cells (qi .u32 (yF IVs (Yq .u32 IVs 4 zs) j)) 284 (0,0))∧But (q+1) W wr) (fun i _=>8 - (intOf i).toNat)
 case atStart=>exact⟨0,rfl,Nat.zero_le _,HV.out,But.refl _ _⟩
 case round=>
  obtain⟨j,rfl,hj,D,I⟩:=hrel;have aj:=I.size;have X:=hid D;have ac:=hid I;have Z:=hid (HB.out.trans (I.below (by omega) HB.out.size));by_cases ak:j<8
  ·have c2:wr.cell? ⟨q+1,j,none⟩=some (.int .u32 (wd IVs j)):=by
    rw[qs D,yi (n:=8) (by rw[yg];rfl) (by omega),Yk _ _ _ _ Nl]
   have f2: ∀o,wr.frozen? ⟨q+1,o,none⟩=false:=(qO D).2;have e9:((4*j:Nat):Int)=4*(j:Int):=by omega
   have ae:=hid (fun n=>qao zs (.slice a 32 ag) (4*j) (wr.drewN n) (Qc H.out (Z.out.trans (QO n))) HZ.out (by have:=HL.out;omega) (by have:=HL.out;omega));have e8:IntKind.i64.wrap (4*(j:Int))=((4*j:Nat):Int):=by rw[IntKind.wrap_i64];omega
   have hS:=hid (show Yq .u32 IVs 4 zs j=bits .xor .u32 (wd IVs j) (Qh zs (4*j) 4) from rfl);generalize ah:4*j=k4 at*;clear D I ah e9;go_wp2_with fail
   refine qj (by dsimp only[List.dropLast]) (by rfl) (by rfl) (by kernel_rfl) (by kernel_rfl) (by kernel_rfl) (by kernel_rfl) ?_;repeat(go_big_quiet_step (exact Calls.quiet_of (ae.out _)))
   refine wpQuiet_nil ?_;intro _ ad;obtain⟨n1,rfl⟩:=ad;go_wp2
   exact⟨⟨j+1,rfl,by omega,by rw[yF,←Qe,hS.out];exact block_setCell (w:=wr.drewN n1) X.out _,(ac.out.drewN n1).set _ _⟩,by simp[intOf];omega⟩
  ·obtain rfl:j=8:=by omega
   have G:=Yp (k:= .u32) (N:=32) (fun z=>IntKind.wrap_u32 z) IVs 4 zs;have Y:=(I.block q (by omega) (by omega)).trans HR.out;have U:(yF IVs (Yq .u32 IVs 4 zs) 8)=ym .u32 IVs 4 zs:=jv _ _;rw[U]at D;clear I X U;go_wp2_with ((with_reducible show wpList _ _ _ (Oper.mk (some 31) _ _ _ _ _::_) _ _);refine wpList_load_row rfl 284 _ rfl (q+1) rfl _ _ _ _ D Tryz.underlying284 rfl (by rw[qf,G.1];kernel_rfl) ?_;refine wpList_store_row rfl 284 _ _ rfl q (qi .u32 (ym .u32 IVs 4 zs)) rfl rfl 284 _ Y (by rw[qf,G.1];kernel_rfl) (by rw[qf,G.1];rfl) qA ?_)
   exact Bp (qE rfl _ _ _ _ _ _ _ rfl (setRow_heap _ _ _ _ _ _ Y) Tryz.underlying284 rfl (by rw[qf,G.1];kernel_rfl)) rfl ⟨rfl,below_setRow (Z.out.mono (by omega)) (by omega) _⟩
end Go.Proofs.YthjoojnlnlmljaaGreat
namespace Go.Proofs.YthjoojnlnlmljaaGreat
open Go.ChangeShapes Go.WideShapes Go.ChangeAt Go.RowKit Go.Joins Go.Shelf Go.Maps
open Go.Lib (hid)
attribute [local go_sem] Oper.semAt_some YI
def qN (n:Nat)(h:List Int):Nat→List Int
 | 0=>[]
 | i+1=>qN n h i++Qg (wd h i).toNat n
theorem jP (n:Nat)(h:List Int): ∀i,(qN n h i).length=n*i
 | 0=>rfl
 | i+1=>by rw[qN,List.length_append,jP n h i,Qa,Nat.mul_succ]
theorem yl {N n:Nat}{L:List Int}(h:Words N n L){i:Nat}(o:i<n):0≤wd L i∧wd L i<2^N:=by
 have e:wd L i=L[i]'(by rw[h.1];exact o):=by unfold wd;simp[Lg,h.1,o]
 rw[e];exact h.2 _ (List.getElem_mem _)
theorem qfJ (x k:Nat):0≤byt x k∧byt x k≤255:=by unfold byt;omega
theorem jR (x k:Nat): ∀z∈Qg x k,0≤z∧z≤255:=by
 intro z o;simp only[Qg,List.mem_map]at o;obtain⟨j, -,rfl⟩:=o;exact qfJ x j
theorem jQ (n:Nat)(h:List Int): ∀i,∀z∈qN n h i,0≤z∧z≤255
 | 0,z,o=>by simp[qN]at o
 | i+1,z,o=>by
  rw[qN,List.mem_append]at o;rcases o with o|o
  ·exact jQ n h i z o
  ·exact jR _ _ z o
theorem qk {W W':World}{base:Nat}{e:TypeId}{size:Nat}{v:Value}{n:Nat}{D:List Value}(h:W.ownsRow base e size v n D)(J: ∀g,base≤g→g<W.heap.size→W'.heap[g]? =W.heap[g]?):W'.ownsRow base e size v n D:=by
 refine⟨h.1,?_⟩;rcases h.2 with o|⟨g,q,G,O,o,I,U⟩
 ·exact .inl o
 ·exact .inr ⟨g,q,G,O,o,(J g o (Ai I).1).trans I,U⟩
theorem qfT {W:World}{base n:Nat}{v:Value}{zs:List Int}(h:W.ownsRow base 5 1 v n (zs.map qt))(I:0<n):
  ∃g o,v= .slice (some ⟨g,0,none⟩) n o∧g<W.heap.size∧ ∀j u,(zs.map qt)[j]? =some u→W.cell? (Addr.add ⟨g,0,none⟩ j)=some u:=by
 rcases h.2 with⟨rfl,D⟩|⟨g,o,q,rfl,G⟩
 ·omega
 ·exact⟨g,o,rfl,(h.lt g rfl).2,h.cells (g:=g) rfl⟩
theorem qej {zs:List Int}: ∀u∈zs.map qt,u.oneCell'=true:=by
 intro u o;obtain⟨z, -,rfl⟩:=List.mem_map.1 o;rfl
theorem Q0 {W:World}{base:Nat}{v:Value}{n:Nat}{zs:List Int}(h:W.ownsRow base 5 1 v n (zs.map qt)):Holds8 W v zs:=by
 have I:n=zs.length:=by have:=h.1;simpa using this.symm
 subst I;by_cases q:zs.length=0
 ·have:zs=[]:=List.length_eq_zero_iff.1 q
  subst this;rcases h.2 with⟨rfl, -⟩|⟨g,o,O,rfl, -⟩
  ·exact⟨none,0,rfl,.inl rfl⟩
  ·exact⟨_,o,rfl,.inl rfl⟩
 ·obtain⟨g,o,rfl,J,G⟩:=qfT h (Nat.pos_of_ne_zero q);refine⟨_,o,rfl,.inr ⟨g,0,rfl,J,fun i D=>?_⟩⟩;have:=G i (.int .u8 (qr zs i)) (by simp[qt,qr,Lg,D])
  rw[show(⟨g,0+i,none⟩:Addr)=Addr.add ⟨g,0,none⟩ i by by_cases h:i=0<;>simp[Addr.add,h]];exact this
theorem qfH (h:List Int)(hh:Words 64 8 h)(w:World):
  Calls Tryz.prog 185 #[.agg (qi .u64 h)] w fun e w'=> ∃v,e= .returned v∧w'.ownsRow w.heap.size 5 1 v 64 ((qN 8 h 8).map qt)∧Below w.heap.size w w':=by
 obtain⟨i0,hi,ai,ag,ae⟩:=info_parts QD;obtain⟨q,af⟩:=Ex w.heap.size;go_enter Tryz.func185,Tryz.ntmps185
 obtain⟨G,X⟩:=Ex (w.alloc (.cells (qi .u64 h) 274));have al:G.heap.size=w.heap.size+1:=by rw[←X];simp
 have Z:Below w.heap.size w G:=by rw[←X];exact(Below.refl w.heap.size w).alloc Nl _
 have ah:G.heap[q]? =some (.cells (qi .u64 h) 274 (0,0)):=by rw[←X];exact qe _ _ af.symm
 obtain⟨w1,hr,D,o⟩:=run_make_own (P:=Tryz.prog) G w.heap.size 24 5 i0 (.int .u8 0) 1 Tryz.underlying24 hi ai ag .i64 .i64 64 (by rw[ae];omega) (by unfold maxLen;omega) (by omega);have ao:(Instr.makeSlice 24 (.int .i64 0) (.int .i64 64)).run Tryz.prog G= .ok (.slice (some ⟨G.heap.size,0,none⟩) 0 64) w1:=hr;have aj:w1.heap[q]? =some (.cells (qi .u64 h) 274 (0,0)):=(o.block q (by omega) (by simp)).trans ah;have ac:Below w.heap.size w w1:=Z.grown o (by omega) (fun k e=>by cases e);obtain⟨bg,ad⟩:=Ex G.heap.size;have aq:q<bg:=by omega
 rw[ad]at ao D;have HR:=hid aj;have HB:=hid ac;have HO:=hid D;have HH:=hid hh;clear hr o Z ah ac D al ad;rw[af]at HO HB⊢;go_wp2_with ((with_reducible show wpList _ _ _ (Oper.mk _ (Op.load _ _) _ _ _ _::_) _ _);refine wpList_load_row rfl 274 _ rfl q rfl _ _ _ _ HR.out Tryz.underlying274 rfl (by rw[qf,HH.out.1];kernel_rfl) ?_)
 go_loopw [3,8] (fun s i wr=> ∃(k:Nat) (v:Value),s=v∧i= .int .i64 k∧k≤8∧wr.ownsRow q 5 1 v (8*k) ((qN 8 h k).map qt)∧Below q w wr) (fun _ i _=>8 - (intOf i).toNat)
 case atStart=>exact⟨0,_,rfl,rfl,Nat.zero_le _,HO.out,HB.out⟩
 case round=>
  obtain⟨k,v,rfl,rfl,hk,I,hb⟩:=hrel;have av:=hb.size;by_cases Y:k<8
  ·have ha:=qC (k:= .u64) HH.out Y;obtain⟨x,hx⟩: ∃x:Nat,(x:Int)=wd h k:=⟨(wd h k).toNat,by have:=(yl HH.out Y);omega⟩;rw[←hx]at ha;have ap:(x:Int)≤18446744073709551615:=by have:=(yl HH.out Y);omega
   have V:(wd h k).toNat=x:=by omega
   have e1:(qN 8 h (k+1)).map qt=(qN 8 h k).map qt++(Qg x 8).map qt:=by rw[qN,List.map_append,V]
   have E1:=hid e1;have OW:=hid I;have BW:=hid hb;clear e1 I hb hx V;go_wp2_with fail
   refine(qeQ x ap _).mono ?_;rintro e2 w2 ⟨v2,rfl,ab,U⟩
   have J:=qk OW.out (W':=w2) (fun g _ hg=>U.block g hg);have am:Below q w w2:=BW.out.trans (U.mono (by omega));have au:=U.size;obtain⟨g2,c2,rfl,ar,ak⟩:=qfT ab (by decide);clear U;go_wp2_with (at_builtin;refine wpList_append_own _ rfl _ _ 24 rfl q 5 i0 (.int .u8 0) 1 1 Tryz.underlying24 hi ai ag ae rfl (by decide) _ _ _ rfl J ⟨g2,0,none⟩ 8 c2 ((Qg x 8).map qt) rfl (by rw[List.length_map,Qa]) ak qej (by unfold maxLen;omega) (by omega) (by omega) ?_;intro v' w3 O aa _;have an:Below q w w3:=am.grown aa (by omega) (fun k e=>(J.lt k e).1))
   rw[←E1.out,←Nat.mul_succ]at O;exact⟨⟨k+1,v',rfl,rfl,by omega,O,an⟩,by simp[intOf];omega⟩
  ·obtain rfl:k=8:=by omega
   go_wp2
   go_ret
   exact⟨_,rfl,I,hb⟩
attribute [local go_sem] Oper.semAt_some YI
theorem qfE (W:World)(a0 a1 a2 o:Value)(T:TypeId): ∀j u,[a0,a1,a2,o][j]? =some u→(W.alloc (.cells #[a0,a1,a2,o] T)).cell? (Addr.add ⟨W.heap.size,0,none⟩ j)=some u:=by
 intro j u q;have h:=qd (Wn W (.cells #[a0,a1,a2,o] T)) j;rw[show Addr.add ⟨W.heap.size,0,none⟩ j=⟨W.heap.size,j,none⟩ by first|(simp[Addr.add];done)|(simp[Addr.add];omega),h];simpa using q
theorem qfI (h:List Int)(hh:Words 32 8 h)(w:World):
  Calls Tryz.prog 188 #[.agg (qi .u32 h)] w fun e w'=> ∃v,e= .returned v∧w'.ownsRow w.heap.size 5 1 v 32 ((qN 4 h 8).map qt)∧Below w.heap.size w w':=by
 obtain⟨i0,hi,ag,ae,ac⟩:=info_parts QD;obtain⟨q,ad⟩:=Ex w.heap.size;go_enter Tryz.func188,Tryz.ntmps188
 obtain⟨G,U⟩:=Ex (w.alloc (.cells (qi .u32 h) 284));have ai:G.heap.size=w.heap.size+1:=by rw[←U];simp
 have X:Below w.heap.size w G:=by rw[←U];exact(Below.refl w.heap.size w).alloc Nl _
 have af:G.heap[q]? =some (.cells (qi .u32 h) 284 (0,0)):=by rw[←U];exact qe _ _ ad.symm
 obtain⟨w1,hr,D,o⟩:=run_make_own (P:=Tryz.prog) G w.heap.size 24 5 i0 (.int .u8 0) 1 Tryz.underlying24 hi ag ae .i64 .i64 32 (by rw[ac];omega) (by unfold maxLen;omega) (by omega);have ak:(Instr.makeSlice 24 (.int .i64 0) (.int .i64 32)).run Tryz.prog G= .ok (.slice (some ⟨G.heap.size,0,none⟩) 0 32) w1:=hr;have ah:w1.heap[q]? =some (.cells (qi .u32 h) 284 (0,0)):=(o.block q (by omega) (by simp)).trans af;have aa:Below w.heap.size w w1:=X.grown o (by omega) (fun k e=>by cases e);obtain⟨bg,ab⟩:=Ex G.heap.size;have al:q<bg:=by omega
 rw[ab]at ak D;have HR:=hid ah;have HB:=hid aa;have HO:=hid D;have Z:=hid hh;clear hr o X af aa D ai ab;rw[ad]at HO HB⊢;go_wp2_with ((with_reducible show wpList _ _ _ (Oper.mk _ (Op.load _ _) _ _ _ _::_) _ _);refine wpList_load_row rfl 284 _ rfl q rfl _ _ _ _ HR.out Tryz.underlying284 rfl (by rw[qf,Z.out.1];kernel_rfl) ?_)
 go_loopw [3,8] (fun s i wr=> ∃(k:Nat) (v:Value),s=v∧i= .int .i64 k∧k≤8∧wr.ownsRow q 5 1 v (4*k) ((qN 4 h k).map qt)∧Below q w wr) (fun _ i _=>8 - (intOf i).toNat)
 case atStart=>exact⟨0,_,rfl,rfl,Nat.zero_le _,HO.out,HB.out⟩
 case round=>
  obtain⟨k,v,rfl,rfl,hk,I,hb⟩:=hrel;have am:=hb.size;by_cases V:k<8
  ·have ha:=qC (k:= .u32) Z.out V;obtain⟨x,hx⟩: ∃x:Nat,(x:Int)=wd h k:=⟨(wd h k).toNat,by have:=(yl Z.out V);omega⟩;rw[←hx]at ha;have an:(x:Int)≤4294967295:=by have:=(yl Z.out V);omega
   have O:(wd h k).toNat=x:=by omega
   have q0:(x:Int)%256=byt x 0:=by have:=zM x 0;simpa using this
   have q1:(x:Int)/256%256=byt x 1:=zM x 1;have q2:(x:Int)/65536%256=byt x 2:=zM x 2;have q3:(x:Int)/16777216=byt x 3:=by
    have h3:(x:Int)/16777216%256=byt x 3:=zM x 3;rw[←h3];omega
   have e1:(qN 4 h (k+1)).map qt=(qN 4 h k).map qt++[.int .u8 (byt x 0),.int .u8 (byt x 1),.int .u8 (byt x 2),.int .u8 (byt x 3)]:=by rw[qN,List.map_append,O];rfl
   have E1:=hid e1;clear e1 hx O;go_wp2_with (at_builtin;refine wpList_append_own _ rfl _ _ 24 rfl q 5 i0 (.int .u8 0) 1 1 Tryz.underlying24 hi ag ae ac rfl (by decide) _ _ _ rfl (I.alloc _) ⟨wr.heap.size,0,none⟩ 4 4 [.int .u8 (byt x 0),.int .u8 (byt x 1),.int .u8 (byt x 2),.int .u8 (byt x 3)] rfl rfl (qfE _ _ _ _ _ _) (by simp[Value.oneCell']) (by unfold maxLen;omega) (by omega) (by simp;omega) ?_;intro v' w2 J Y _;have aj:Below q w w2:=(hb.alloc (by omega) _).grown Y (by simp;omega) (fun k e=>(I.lt k e).1))
   rw[←E1.out,←Nat.mul_succ]at J;exact⟨⟨k+1,v',rfl,rfl,by omega,J,aj⟩,by simp[intOf];omega⟩
  ·obtain rfl:k=8:=by omega
   go_wp2
   go_ret
   exact⟨_,rfl,I,hb⟩
end Go.Proofs.YthjoojnlnlmljaaGreat
namespace Go.Proofs.YthjoojnlnlmljaaGreat
open Go.ChangeShapes Go.WideShapes Go.ChangeAt Go.RowKit Go.Joins Go.Shelf Go.Maps
open Go.Lib (hid)
attribute [local go_sem] Oper.semAt_some
def SrcIs (w:World)(x:Value)(m:Nat)(news:List Value):Prop:=
 news.length=m∧(∀u∈news,u.oneCell'=true)∧((x= .slice none 0 0∧m=0)∨ ∃ad c,x= .slice (some ad) m c∧ ∀j u,news[j]? =some u→w.cell? (ad.add j)=some u)
theorem SrcIs.below {w w':World}{x:Value}{m:Nat}{o:List Value}(h:SrcIs w x m o)(D:Below w.heap.size w w'):SrcIs w' x m o:=by
 refine⟨h.1,h.2.1,?_⟩;rcases h.2.2 with q|⟨G,c,e,q⟩
 ·exact .inl q
 ·refine .inr ⟨G,c,e,fun j u I=>?_⟩;have:=q j u I
  rw[D.cell (World.block_lt_of_cell? w _ this)];exact this
theorem qbb {P:Program}{w W:World}{B:Nat}(hB:B=W.heap.size)(O:Below B W w)(t Y e:TypeId)(i:TypeInfo)(z:Value)(D:Nat)(ht:P.underlying t=some (.slice e))(hi:P.info? e=some i)(hz:i.zero=some z)
  (V:i.size=1) (ac:i.bytes=D) (aa:z.cells.size=1) (v:Value) (n:Nat) (U:List Value) (q:w.ownsRow B e 1 v n U)
  (x:Value) (m:Nat) (o:List Value) (Z:SrcIs w x m o) (ab:n+m≤maxLen) (G:(n+m)*D≤140737488355328):
  ∃v' w',(Builtin.append_ #[t,t] Y #[v,x]).run P w= .ok v' w'∧w'.ownsRow B e 1 v' (n+m) (U++o)∧Below B W w':=by
 subst hB;obtain⟨h1,h2,X⟩:=Z;rcases X with⟨rfl,rfl⟩|⟨ad,c,rfl,X⟩
 ·obtain rfl:o=[]:=List.eq_nil_of_length_eq_zero h1;exact⟨v,w,run_append_owned_none w W.heap.size t Y e i 1 ht hi v n U q,by simpa using q,O⟩
 ·obtain⟨v',w',hr,J,I, -⟩:=run_append_own (P:=P) w W.heap.size t Y e i z 1 D ht hi hz V ac aa (by omega) v n U q ad m c o (by omega) X h2 ab G O.size;exact⟨v',w',hr,J,O.grown I O.size (fun k e=>(q.lt k e).1)⟩
theorem qaK {P:Program}{w:World}{ops:Array Oper}{o:Oper}{a:Act}{K:Act→World→Prop}{Q:Exit→Act→World→Prop}{E:Prop}(Y:o.guard=none)(s x:Operand)(t:TypeId)
  (ho:o.op= .call { callee:= .builtin .append,args:= #[s,x],argTypes:= #[t,t] }) (W:World) (B:Nat) (hB:B=W.heap.size) (hb:Below B W w)
  (e:TypeId) (i:TypeInfo) (z:Value) (q:Nat) (ht:P.underlying t=some (.slice e)) (hi:P.info? e=some i) (hz:i.zero=some z)
  (I:i.size=1) (Z:i.bytes=q) (V:z.cells.size=1) (v:Value) (n:Nat) (O:List Value) (hs:a.eval s=v) (U:w.ownsRow B e 1 v n O)
  (u:Value) (m:Nat) (D:List Value) (hx:a.eval x=u) (J:SrcIs w u m D) (X:n+m≤maxLen) (G:(n+m)*q≤140737488355328)
  (h: ∀v' w',w'.ownsRow B e 1 v' (n+m) (O++D)→Below B W w'→K (a.put o.dst v') w'):
  if Region.wanted o (yielded ops a.tmps)=true then Oper.wp P o a w K Q else E:=by
 have hw:Region.wanted o (yielded ops a.tmps)=true:=by simp[Region.wanted,Y]
 rw[if_pos hw];obtain⟨v',w',hr,h2,h3⟩:=qbb (P:=P) hB hb t o.type e i z q ht hi hz I Z V v n O U u m D J X G;unfold Oper.wp execOp;simp only[ho,resolve,invoke,builtin,Sem.run_bind,Sem.run_pure,Result.andThen_ok,List.map_toArray,List.map_cons,List.map_nil,hs,hx,hr];exact h v' w' h2 h3
theorem qeU {w:World}{B n:Nat}{e:TypeId}{v:Value}{o:List Value}(h:w.ownsRow B e 1 v n o)(D: ∀u∈o,u.oneCell'=true):SrcIs w v n o:=by
 refine⟨by have:=h.1;omega,D,?_⟩;rcases h.2 with⟨rfl,rfl⟩|⟨g,q,G,rfl, -⟩
 ·exact .inl ⟨rfl,rfl⟩
 ·exact .inr ⟨⟨g,0,none⟩,q,rfl,h.cells (g:=g) rfl⟩
theorem Qn {P:Program}{w:World}{ops:Array Oper}{o:Oper}{l:List Oper}{a:Act}{Q:Exit→Act→World→Prop}(J:o.guard=none)(s x:Operand)(t:TypeId)
  (ho:o.op= .call { callee:= .builtin .append,args:= #[s,x],argTypes:= #[t,t] }) (W:World) (B:Nat) (hB:B=W.heap.size) (hb:Below B W w)
  (e:TypeId) (i:TypeInfo) (z:Value) (q:Nat) (ht:P.underlying t=some (.slice e)) (hi:P.info? e=some i) (hz:i.zero=some z)
  (I:i.size=1) (aa:i.bytes=q) (X:z.cells.size=1) (v:Value) (n:Nat) (U:List Value) (hs:a.eval s=v) (V:w.ownsRow B e 1 v n U)
  (u:Value) (m:Nat) (D:List Value) (hx:a.eval x=u) (O:SrcIs w u m D) (Y:n+m≤maxLen) (G:(n+m)*q≤140737488355328)
  (h: ∀v' w',w'.ownsRow B e 1 v' (n+m) (U++D)→Below B W w'→wpList P ops Q l (a.put o.dst v') w'):wpList P ops Q (o::l) a w:=by
 have Z:Region.wanted o (yielded ops a.tmps)=true:=by simp[Region.wanted,J]
 unfold wpList;rw[if_pos Z];refine .inl ?_;have H:=qaK (ops:=ops) (K:=wpList P ops Q l) (Q:=Q) (E:=True) J s x t ho W B hB hb e i z q ht hi hz I aa X v n U hs V u m D hx O Y G h;rw[if_pos Z]at H;exact H
def Qj (zs:List Int):Nat→Nat
 | 0=>0
 | k+1=>if qr zs k=0 then Qj zs k else k+1
theorem ZC (zs:List Int): ∀k,Qj zs k≤k
 | 0=>Nat.le_refl _
 | k+1=>by
  unfold Qj;split
  ·exact Nat.le_succ_of_le (ZC zs k)
  ·exact Nat.le_refl _
theorem qa4 (zs:List Int): ∀k j,Qj zs k≤j→j<k→qr zs j=0
 | 0,j,_,h=>by omega
 | k+1,j,h1,h2=>by
  unfold Qj at h1;split at h1
  ·rename_i h;by_cases e:j=k
   ·rw[e];exact h
   ·exact qa4 zs k j h1 (by omega)
  ·omega
theorem qdE {w:World}{b off n o:Nat}{zs:List Int}(h:Qs w b off zs)(I:n≤zs.length):SrcIs w (.slice (some ⟨b,off,none⟩) n o) n ((zs.take n).map qt):=by
 refine⟨by simp;omega,?_,.inr ⟨⟨b,off,none⟩,o,rfl,?_⟩⟩
 ·intro u D;obtain⟨z, -,rfl⟩:=List.mem_map.1 D;rfl
 ·intro j u G;obtain⟨q,rfl⟩:=List.getElem?_eq_some_iff.1 G;simp at q
  rw[Go.WideShapes.add_plain,h.2 j (by omega)];simp[qt,qr,Lg,show j<zs.length by omega]
theorem qa3 (zs:List Int)(b off D:Nat)(w:World)(Y:Qs w b off zs)(aa:zs.length≤D)(hm:zs.length≤4294967296):
  Calls Tryz.prog 159 #[.slice (some ⟨b,off,none⟩) zs.length D] w fun e w'=> ∃v',e= .returned v'∧w'.ownsRow w.heap.size 5 1 v' (Qj zs zs.length) ((zs.take (Qj zs zs.length)).map qt)∧Below w.heap.size w w':=by
 obtain⟨i0,hi,V,U,J⟩:=info_parts QD;obtain⟨h1,h2⟩:=id Y;have HC:=hid h2;have HB:=hid Y;clear h2 Y;go_enter Tryz.func159,Tryz.ntmps159
 go_wp2_with fail
 go_loopw [3] (fun i wr=> ∃k:Nat,i= .int .i64 k∧wr=w∧k≤zs.length∧Qj zs k=Qj zs zs.length) (fun i _=>(intOf i).toNat)
 case atStart=>exact⟨zs.length,rfl,rfl,Nat.le_refl _,rfl⟩
 case round=>
  obtain⟨k,rfl,rfl,hk,O⟩:=hrel;have X:=hid O;clear O
  cases k with
  | zero=>
   have k5:(0:Int)≤D:=by omega
   have hN:=ZC zs zs.length;have Z:=hid (show Qj zs zs.length=0 from X.out.symm);go_wp2_with (at_builtin;refine Qn rfl _ _ _ rfl wr wr.heap.size rfl (by repeat(first|exact Below.refl _ _|refine Below.drew ?_)) 5 i0 (.int .u8 0) 1 Tryz.underlying24 hi V U J rfl _ 0 [] rfl (Wo _ _ _ _) _ 0 _ rfl (qdE (n:=0) HB.out (by omega)) (by unfold maxLen;omega) (by omega) ?_;intro v' w2 o I)
   go_ret
   refine⟨_,rfl,?_,I⟩;rw[Z.out];exact o
  | succ j=>
   have hc:=HC.out j (by omega);have k1:((j+1:Nat):Int) - 1=(j:Nat):=by omega
   have k2:0≤(j:Int)∧(j:Int)<4294967296:=by omega
   obtain⟨k3,k4⟩:=k2;have k5:(j:Int)+1≤D:=by omega
   by_cases G:qr zs j=0
   ·rw[G]at hc;go_wp2
    exact⟨⟨j,rfl,by trivial,by omega,by rw[←X.out];simp[Qj,G]⟩,by simp[intOf]⟩
   ·have Z:=hid (show j+1=Qj zs zs.length by rw[←X.out];simp[Qj,G]);have q:=beq_eq_false_iff_ne.2 G;have q2:(qr zs j==0)=false:=q;generalize qr zs j=z at hc G q q2;clear q G;go_wp2_with (at_builtin;refine Qn rfl _ _ _ rfl wr wr.heap.size rfl (by repeat(first|exact Below.refl _ _|refine Below.drew ?_)) 5 i0 (.int .u8 0) 1 Tryz.underlying24 hi V U J rfl _ 0 [] rfl (Wo _ _ _ _) _ (j+1) _ rfl (qdE (n:=j+1) HB.out (by omega)) (by unfold maxLen;omega) (by omega) ?_;intro v' w2 o I)
    go_ret
    refine⟨_,rfl,?_,I⟩;rw[←Z.out];simpa using o
theorem jM (zs:List Int)(b off X:Nat)(w:World)(hB:Qs w b off zs)(ai:zs.length≤X)(hm:zs.length≤4294967296):
  Calls Tryz.prog 190 #[.slice (some ⟨b,off,none⟩) zs.length X] w fun e w'=> ∃v',e= .returned v'∧w'.ownsRow w.heap.size 5 1 v' (Qj zs zs.length) ((zs.take (Qj zs zs.length)).map qt)∧Below w.heap.size w w':=by
 obtain⟨i0,hi,ah,af,aa⟩:=info_parts QD;obtain⟨h1,h2⟩:=id hB;have HC:=hid h2;have HB:=hid hB;obtain⟨N,hN⟩:=Ex (Qj zs zs.length);have ab:=ZC zs zs.length;rw[hN]at ab⊢;have HN:=hid hN;clear h2 hB hN;go_enter Tryz.func190,Tryz.ntmps190
 go_wp2_with fail
 go_loopw [3] (fun i wr=> ∃k:Nat,i= .int .i64 k∧w=wr∧k≤zs.length∧Qj zs k=N) (fun i _=>(intOf i).toNat)
 case atStart=>exact⟨zs.length,rfl,rfl,Nat.le_refl _,HN.out⟩
 case round=>
  obtain⟨k,rfl,rfl,hk,V⟩:=hrel;have HE:=hid V;clear V;by_cases I: ∃j,k=j+1∧qr zs j=0
  ·obtain⟨j,rfl,hj⟩:=I;have hc:=HC.out j (by omega);have k1:((j+1:Nat):Int) - 1=(j:Nat):=by omega
   have k3:0≤(j:Int):=by omega
   have k4:(j:Int)<4294967296:=by omega
   rw[hj]at hc;go_wp2
   exact⟨⟨j,rfl,by trivial,by omega,by rw[←HE.out];simp[Qj,hj]⟩,by simp[intOf]⟩
  ·have ek:k=N:=by
    rw[←HE.out]
    cases k with
    | zero=>rfl
    | succ j=>simp only[Qj];rw[if_neg (fun h=>I ⟨j,rfl,h⟩)]
   have ae:k=0∨ ∃j z,k=j+1∧w.cell? ⟨b,off+j,none⟩=some (.int .u8 z)∧(z==0)=false:=by
    cases k with
    | zero=>exact .inl rfl
    | succ j=>exact .inr ⟨j,qr zs j,rfl,HC.out j (by omega),beq_eq_false_iff_ne.2 (fun h=>I ⟨j,rfl,h⟩)⟩
   clear I;subst ek;rcases ae with J|⟨j,z,J,hc,hq⟩
   case inl=>
    subst J;go_wp2_with fail
    go_loopw [4,5] (fun o i O=> ∃(m:Nat) (v:Value),o=v∧i= .int .i64 m∧m≤0∧O.ownsRow w.heap.size 5 1 v m ((zs.take m).map qt)∧Below w.heap.size w O) (fun _ i _=>0 - (intOf i).toNat)
    case atStart=>exact⟨0,_,rfl,rfl,by omega,Wo _ _ _ _,Below.refl _ _⟩
    case round=>
     obtain⟨i,v,rfl,rfl,ag,q,D⟩:=hrel;have Z:=D.size;by_cases Y:i<0
     ·exact absurd Y (by omega)
     ·obtain rfl:i=0:=by omega
      go_wp2
      go_ret
      exact⟨_,rfl,q,D⟩
   case inr=>
    have HK:=hid J;have k1:((j+1:Nat):Int) - 1=(j:Nat):=by omega
    have k3:0≤(j:Int):=by omega
    have k4:(j:Int)<4294967296:=by omega
    subst J;go_wp2_with fail
    go_loopw [4,5] (fun o i O=> ∃(m:Nat) (v:Value),o=v∧i= .int .i64 m∧m≤j+1∧O.ownsRow w.heap.size 5 1 v m ((zs.take m).map qt)∧Below w.heap.size w O) (fun _ i _=>j+1 - (intOf i).toNat)
    case atStart=>exact⟨0,_,rfl,rfl,by omega,Wo _ _ _ _,Below.refl _ _⟩
    case round=>
     clear hc hq k1 k3 k4;obtain⟨i,v,rfl,rfl,ag,q,D⟩:=hrel;have Z:=D.size;by_cases Y:i<j+1
     ·have ad:=(D.cell (p:=⟨b,off+i,none⟩) h1).trans (HC.out i (by omega));have e1:=hid (show(zs.take (i+1)).map qt=(zs.take i).map qt++[.int .u8 (qr zs i)] by
       rw[List.take_add_one,List.map_append];simp[qr,Lg,show i<zs.length by omega,qt])
      generalize qr zs i=y at ad e1;go_wp2_with (at_builtin;refine wpList_append_own _ rfl _ _ 24 rfl w.heap.size 5 i0 (.int .u8 0) 1 1 Tryz.underlying24 hi ah af aa rfl (by decide) _ _ _ rfl (q.alloc _) ⟨wr.heap.size,0,none⟩ 1 1 [.int .u8 y] rfl rfl (cell_one_new _ _ _) (by simp[Value.oneCell']) (by unfold maxLen;omega) (by omega) (by simp;omega) ?_;intro v' w2 G U _;have ac:Below w.heap.size w w2:=(D.alloc Z _).grown U (by simp;omega) (fun k e=>(q.lt k e).1))
      rw[←e1.out]at G;exact⟨⟨i+1,v',rfl,rfl,by omega,G,ac⟩,by simp[intOf];omega⟩
     ·obtain rfl:i=j+1:=by omega
      go_wp2
      go_ret
      exact⟨_,rfl,q,D⟩
theorem qcg (big:Bool)(a:Option Addr)(n q:Nat)(w:World):
  Calls Tryz.prog 127 #[.int .i64 (kB big),.slice a n q] w fun e w'=>(∃x,e= .returned (.int .i64 x)∧(x=0↔n=mB big))∧w'=w:=by
 have o:=ZK big
 cases big
 case' false=>
  change ∀w:World,Calls Tryz.prog 126 #[.int .i64 2] w fun e w'=>e= .returned (.tuple #[.int .i64 32,.int .i64 32,.int .i64 8])∧w'=w at o
  change Calls _ _ #[.int .i64 2,_] _ fun e w'=>(∃x,e= .returned (.int .i64 x)∧(x=0↔n=32))∧_
  obtain⟨N,D⟩: ∃N:Nat,N=32:=⟨_,rfl⟩
 case' true=>
  change ∀w:World,Calls Tryz.prog 126 #[.int .i64 1] w fun e w'=>e= .returned (.tuple #[.int .i64 64,.int .i64 64,.int .i64 16])∧w'=w at o
  change Calls _ _ #[.int .i64 1,_] _ fun e w'=>(∃x,e= .returned (.int .i64 x)∧(x=0↔n=64))∧_
  obtain⟨N,D⟩: ∃N:Nat,N=64:=⟨_,rfl⟩
 all_goals
  by_cases J:n<N
  case' neg=>by_cases G:N<n
  all_goals
   subst D;go_enter Tryz.func127,Tryz.ntmps127
   go_wp2_with fail
   refine(o _).mono ?_;rintro e I ⟨rfl,rfl⟩;go_wp2_with fail
   go_ret
   exact⟨⟨_,rfl,by omega⟩,rfl⟩
theorem qcc (big:Bool)(a:Option Addr)(n D:Nat)(w:World):
  Calls Tryz.prog 172 #[.int .i64 (kB big),.slice a n D] w fun e w'=>(∃x,e= .returned (.int .i64 x)∧(x=0↔n=mB big))∧w'=w:=by
 have q:=Yf big;have o:=j6 big
 cases big
 case' false=>
  change ∀w:World,Calls Tryz.prog 167 #[.int .i64 2] w fun e w'=>e= .returned (.int .i64 32)∧w'=w at q
  change ∀w:World,Calls Tryz.prog 164 #[.int .i64 2] w fun e w'=>e= .returned (.int .i64 32)∧w'=w at o
  change Calls _ _ #[.int .i64 2,_] _ fun e w'=>(∃x,e= .returned (.int .i64 x)∧(x=0↔n=32))∧_
  obtain⟨N,I⟩: ∃N:Nat,N=32:=⟨_,rfl⟩
 case' true=>
  change ∀w:World,Calls Tryz.prog 167 #[.int .i64 1] w fun e w'=>e= .returned (.int .i64 64)∧w'=w at q
  change ∀w:World,Calls Tryz.prog 164 #[.int .i64 1] w fun e w'=>e= .returned (.int .i64 64)∧w'=w at o
  change Calls _ _ #[.int .i64 1,_] _ fun e w'=>(∃x,e= .returned (.int .i64 x)∧(x=0↔n=64))∧_
  obtain⟨N,I⟩: ∃N:Nat,N=64:=⟨_,rfl⟩
 all_goals
  by_cases O:n<N
  case' neg=>by_cases J:N<n
  all_goals
   subst I;go_enter Tryz.func172,Tryz.ntmps172
   go_wp2_with fail
   refine(q _).mono ?_;rintro e G ⟨rfl,rfl⟩;go_wp2_with fail
   refine(o _).mono ?_;rintro e G ⟨rfl,rfl⟩;go_wp2_with fail
   try(refine(o _).mono ?_;rintro e G ⟨rfl,rfl⟩;go_wp2_with fail)
   go_ret
   exact⟨⟨_,rfl,by omega⟩,rfl⟩
def atB (big:Bool):Nat→Nat
 | 1=>0|2=>1|3=>2|4=>3|5=>4|6=>8|7=>12
 | 8=>cond big 16 14
 | _=>cond big 17 15
def szB (big:Bool):Nat→Nat
 | 5=>4
 | 6=>cond big 8 6
 | 7=>cond big 4 2
 | _=>1
theorem jt (big:Bool)(f:Nat)(o:1≤f∧f≤9)(w:World):
  Calls Tryz.prog 165 #[.int .i64 (kB big),.int .i64 f] w fun e w'=>e= .returned (.tuple #[.int .i64 (atB big f:Nat),.int .i64 (szB big f:Nat)])∧w'=w:=by
 have h:f=1∨f=2∨f=3∨f=4∨f=5∨f=6∨f=7∨f=8∨f=9:=by omega
 clear o;rcases h with rfl|rfl|rfl|rfl|rfl|rfl|rfl|rfl|rfl<;>cases big<;>
 ·simp only[kB,atB,szB,cond];go_enter Tryz.func165,Tryz.ntmps165
  go_wp2
  exact Bp (results_tmp2 (fn:=Tryz.f165) (t:=4) (u:=5) rfl _ _ _) rfl ⟨rfl,rfl⟩
def qi3 (big:Bool)(w:World)(b:Nat):Prop:=b<w.heap.size∧ ∀f,1≤f→f≤9→w.cell? ⟨b,(f - 1)*5,none⟩=some (.int .i64 f)∧w.cell? ⟨b,(f - 1)*5+1,none⟩=some (.int .i64 (atB big f:Nat))∧w.cell? ⟨b,(f - 1)*5+2,none⟩=some (.int .i64 (szB big f:Nat))
theorem JC:(Tryz.prog.info? 219).map (fun i=>(i.zero,i.size,i.bytes))=some (some (.agg #[.int .i64 0,.int .i64 0,.int .i64 0,.string ⟨#[]⟩,.int .i64 0]),5,48):=by kernel_rfl
theorem qfP (big:Bool)(w:World):
  Calls Tryz.prog 128 #[.int .i64 (kB big)] w fun e w'=>(∃b,e= .returned (.slice (some ⟨b,0,none⟩) 9 9)∧w.heap.size≤b∧qi3 big w' b)∧Below w.heap.size w w':=by
 cases hie:Tryz.prog.info? 219 with
 | none=>have:=JC;rw[hie]at this;cases this
 | some ie=>
 have q:=JC;rw[hie]at q;simp only[Option.map_some,Option.some.injEq,Prod.mk.injEq]at q;obtain⟨D,o, -⟩:=q
 cases big<;>
 ·simp only[kB,cond];go_enter Tryz.func128,Tryz.ntmps128
  go_wp2_with ((with_reducible show wpList _ _ _ (Oper.mk _ (Op.buildSlice _ _ _) _ _ _ _::_) _ _);refine wpList_buildSlice rfl 215 219 9 _ rfl rowCells ie _ Tryz.underlying215 hie D (by rw[o];decide) (by rw[o];decide) (by rw[o];rfl) ?_)
  go_ret
  refine⟨⟨_,rfl,Nat.le_refl _,by simp,fun f I G=>?_⟩,Br.alloc Nl _⟩;have h:f=1∨f=2∨f=3∨f=4∨f=5∨f=6∨f=7∨f=8∨f=9:=by omega
  rcases h with rfl|rfl|rfl|rfl|rfl|rfl|rfl|rfl|rfl<;>exact⟨(qd (Wn w _) _).trans rfl,(qd (Wn w _) _).trans rfl,(qd (Wn w _) _).trans rfl⟩
end Go.Proofs.YthjoojnlnlmljaaGreat
