/- A block's words, by the program and by the reference: the big kind. No condition. -/
import Derived.Test.YtahenngmaoellaaGreatC06
import Derived.Test.YtahenngmaoellaaGreatC15
import Derived.Laws.MakeOwn
import Derived.Test.YtahenngmaoellaaGreatC08
import Derived.Deep.RegionHeld3
import Derived.Laws.AppendOwnNone
set_option linter.all false
set_option maxRecDepth 100000
set_option maxHeartbeats 8000000
namespace Go.Proofs.YtahenngmaoellaaGreat
open Go.ChangeShapes Go.WideShapes Go.ChangeAt Go.RowKit Go.Joins Go.Shelf Go.Maps
open Go.Lib (hid)
attribute [local go_sem] Oper.semAt_some
def QS (n c:Nat)(zs:List Int):List Int:=(List.range c).map fun i=>Qg zs (n*i) n
def yy (n c:Nat)(zs:List Int):Nat→List Int
 | 0=>List.replicate c 0
 | j+1=>(yy n c zs j).set j (Qg zs (n*j) n)
theorem yw (n c:Nat)(zs:List Int): ∀j,(yy n c zs j).length=c
 | 0=>by simp[yy]
 | j+1=>by simp[yy,yw n c zs j]
theorem qdN (n c:Nat)(zs:List Int): ∀j i,i<j→i<c→(yy n c zs j)[i]? =some (Qg zs (n*i) n)
 | j+1,i,h,hc=>by
  simp only[yy];by_cases e:i=j
  ·subst e;rw[List.getElem?_set_self (by rw[yw];exact hc)]
  ·rw[List.getElem?_set_ne (Ne.symm e)];exact qdN n c zs j i (by omega) hc
theorem jp (n c:Nat)(zs:List Int):yy n c zs c=QS n c zs:=by
 apply List.ext_getElem?
 intro i;by_cases h:i<c
 ·rw[qdN n c zs c i h h];simp[QS,h]
 ·rw[List.getElem?_eq_none (by rw[yw];omega),List.getElem?_eq_none (by simp[QS];omega)]
theorem Q5 (n c:Nat){zs:List Int}(hz: ∀z∈zs,0≤z∧z≤255)(hl:zs.length=n*c):Words (8*n) c (QS n c zs):=by
 refine⟨by simp[QS],fun x hx=>?_⟩;simp only[QS,List.mem_map,List.mem_range]at hx;obtain⟨i,hi,rfl⟩:=hx;have:n*i+n≤n*c:=by
  rw[←Nat.mul_succ];exact Nat.mul_le_mul_left n hi
 exact QC hz n (by omega)
theorem Holds8.slice {w:World}{v:Value}{zs:List Int}(h:Holds8 w v zs): ∃a cap,v= .slice a zs.length cap:=by
 obtain⟨a,cap,e, -⟩:=h;exact⟨a,cap,e⟩
theorem qa8 (zs:List Int)(v:Value)(at_:Nat)(w:World)(h:Holds8 w v zs)(hz: ∀z∈zs,0≤z∧z≤255)(hl:at_+8≤zs.length)(hm:zs.length≤4294967296):
  Calls Tryz.prog 98 #[v,.int .i64 (at_:Nat)] w fun e w'=>e= .returned (.tuple #[.int .u64 (Qg zs at_ 8),.int .i64 0])∧w'=w:=by
 have H:=hid (qgb zs v at_ w h hz hl hm);go_enter Tryz.func98,Tryz.ntmps98
 go_wp2_with fail
 refine H.out.mono ?_;rintro e w1 ⟨rfl,rfl⟩;go_wp2
 exact Bp (results_tmp2 rfl _ _ _) rfl ⟨rfl,rfl⟩
theorem qea (zs:List Int)(v:Value)(w:World)(h:Holds8 w v zs)(hz: ∀z∈zs,0≤z∧z≤255)(hl:zs.length=128):
  Calls Tryz.prog 203 #[v] w fun e w'=>e= .returned (.tuple #[.agg (qh .u64 (QS 8 16 zs)),.int .i64 0])∧Below w.heap.size w w':=by
 obtain⟨a,cap,rfl⟩:=h.slice;obtain⟨b0,hb0⟩:=Ex w.heap.size;have H:=hid h;have HZ:=hid hz;have HL:=hid hl;rw[hl]at H⊢;clear h hz hl;go_enter Tryz.func203,Tryz.ntmps203
 go_wp2_with fail
 refine qj ?_;intro W hW;have hr:W.heap[b0]? =some (.cells #[.int .u64 0,.int .u64 0,.int .u64 0,.int .u64 0,.int .u64 0,.int .u64 0,.int .u64 0,.int .u64 0,.int .u64 0,.int .u64 0,.int .u64 0,.int .u64 0,.int .u64 0,.int .u64 0,.int .u64 0,.int .u64 0] 257 (0,0)):=by
  rw[hW];exact(Bh _ _ _ (by simp;omega)).trans (qc _ _ hb0.symm)
 have hv:W.heap[b0+1]? =some (.cells (qh .u64 (yy 8 16 zs 0)) 257 (0,0)):=by
  rw[hW];exact qc _ _ (by simp;omega)
 have hB:Below w.heap.size w W:=by
  rw[hW];exact((Below.refl w.heap.size w).alloc Nl _).alloc (by simp) _
 have hs1:b0+1<W.heap.size:=(Ai hv).1;clear hW;have HR:=hid hr;have HV:=hid hv;have HB:=hid hB;clear hr hv hB;go_loopw [10] (fun i wr=> ∃j:Nat,i= .int .i64 j∧j≤16∧wr.heap[b0+1]? =some (.cells (qh .u64 (yy 8 16 zs j)) 257 (0,0))∧But (b0+1) W wr) (fun i _=>16 - (intOf i).toNat)
 case atStart=>exact⟨0,rfl,Nat.zero_le _,HV.out,But.refl _ _⟩
 case round=>
  obtain⟨j,rfl,hj,hv,hB⟩:=hrel;have hsz:=hB.size;have HVr:=hid hv;have HBr:=hid hB;have HBw:=hid (HB.out.trans (hB.below (by omega) HB.out.size));by_cases hlt:j<16
  ·have c2:wr.cell? ⟨b0+1,j,none⟩=some (.int .u64 (wd (yy 8 16 zs j) j)):=(qm hv _).trans (yf (yw _ _ _ _) (by omega));have f2: ∀o,wr.frozen? ⟨b0+1,o,none⟩=false:=(qJ hv).2;have e8:IntKind.i64.wrap (8*(j:Int))=((8*j:Nat):Int):=by rw[IntKind.wrap_i64];omega
   have HLd:=hid (qa8 zs (.slice a 128 cap) (8*j) wr (qT H.out HBw.out) HZ.out (by have:=HL.out;omega) (by have:=HL.out;omega));have e9:((8*j:Nat):Int)=8*(j:Int):=by omega
   have hrange:8*(j:Int)≤128:=by omega
   rw[e9]at HLd;clear hv hB e8 e9;go_wp2_with fail
   refine HLd.out.mono ?_;rintro e2 w2 ⟨rfl,rfl⟩;go_wp2
   exact⟨⟨j+1,rfl,by omega,by rw[yy,←Qd];exact block_setCell HVr.out _,HBr.out.set _ _⟩,by simp[intOf];omega⟩
  ·obtain rfl:j=16:=by omega
   have hW:=Q5 8 16 HZ.out HL.out;have hr5:=(hB.block b0 (by omega) (by omega)).trans HR.out;rw[jp]at hv;clear hB HVr;go_wp2_with ((with_reducible show wpList _ _ _ (Oper.mk (some 23) _ _ _ _ _::_) _ _);refine wpList_load_row rfl 257 _ rfl (b0+1) rfl _ _ _ _ hv Tryz.underlying257 rfl (by rw[qe,hW.1];kernel_rfl) ?_;refine wpList_store_row rfl 257 _ _ rfl b0 (qh .u64 (QS 8 16 zs)) rfl rfl 257 _ hr5 (by rw[qe,hW.1];kernel_rfl) (by rw[qe,hW.1];rfl) qv ?_)
   exact Bp (qB rfl _ _ _ _ _ _ _ rfl (setRow_heap _ _ _ _ _ _ hr5) Tryz.underlying257 rfl (by rw[qe,hW.1];kernel_rfl)) rfl ⟨rfl,below_setRow (HBw.out.mono (by omega)) (by omega) _⟩
theorem qbD (zs:List Int)(v:Value)(w:World)(h:Holds8 w v zs)(hz: ∀z∈zs,0≤z∧z≤255)(hl:zs.length=128):
  Calls Tryz.prog 198 #[v] w fun e w'=>e= .returned (.tuple #[.agg (qh .u64 (QS 8 16 zs)),.int .i64 0])∧Below w.heap.size w w':=by
 obtain⟨a,cap,rfl⟩:=h.slice;obtain⟨b0,hb0⟩:=Ex w.heap.size;have H:=hid h;have HZ:=hid hz;have HL:=hid hl;rw[hl]at H⊢;clear h hz hl;go_enter Tryz.func198,Tryz.ntmps198
 go_wp2_with fail
 refine qj ?_;intro W hW;have hr:W.heap[b0]? =some (.cells #[.int .u64 0,.int .u64 0,.int .u64 0,.int .u64 0,.int .u64 0,.int .u64 0,.int .u64 0,.int .u64 0,.int .u64 0,.int .u64 0,.int .u64 0,.int .u64 0,.int .u64 0,.int .u64 0,.int .u64 0,.int .u64 0] 257 (0,0)):=by
  rw[hW];exact(Bh _ _ _ (by simp;omega)).trans (qc _ _ hb0.symm)
 have hv:W.heap[b0+1]? =some (.cells (qh .u64 (yy 8 16 zs 0)) 257 (0,0)):=by
  rw[hW];exact qc _ _ (by simp;omega)
 have hB:Below w.heap.size w W:=by
  rw[hW];exact((Below.refl w.heap.size w).alloc Nl _).alloc (by simp) _
 have hs1:b0+1<W.heap.size:=(Ai hv).1;clear hW;have HR:=hid hr;have HV:=hid hv;have HB:=hid hB;clear hr hv hB;go_loopw [5] (fun i wr=> ∃j:Nat,i= .int .i64 j∧j≤16∧wr.heap[b0+1]? =some (.cells (qh .u64 (yy 8 16 zs j)) 257 (0,0))∧But (b0+1) W wr) (fun i _=>16 - (intOf i).toNat)
 case atStart=>exact⟨0,rfl,Nat.zero_le _,HV.out,But.refl _ _⟩
 case round=>
  obtain⟨j,rfl,hj,hv,hB⟩:=hrel;have hsz:=hB.size;have HVr:=hid hv;have HBr:=hid hB;have HBw:=hid (HB.out.trans (hB.below (by omega) HB.out.size));by_cases hlt:j<16
  ·have c2:wr.cell? ⟨b0+1,j,none⟩=some (.int .u64 (wd (yy 8 16 zs j) j)):=(qm hv _).trans (yf (yw _ _ _ _) (by omega));have f2: ∀o,wr.frozen? ⟨b0+1,o,none⟩=false:=(qJ hv).2;have e8:IntKind.i64.wrap (8*(j:Int))=((8*j:Nat):Int):=by rw[IntKind.wrap_i64];omega
   have HLd:=hid (qa0 zs (.slice a 128 cap) (8*j) wr (qT H.out HBw.out) HZ.out (by have:=HL.out;omega) (by have:=HL.out;omega));have e9:((8*j:Nat):Int)=8*(j:Int):=by omega
   have hrange:8*(j:Int)≤128:=by omega
   rw[e9]at HLd;clear hv hB e8 e9;go_wp2_with fail
   refine HLd.out.mono ?_;rintro e2 w2 ⟨rfl,rfl⟩;go_wp2
   exact⟨⟨j+1,rfl,by omega,by rw[yy,←Qd];exact block_setCell HVr.out _,HBr.out.set _ _⟩,by simp[intOf];omega⟩
  ·obtain rfl:j=16:=by omega
   have hW:=Q5 8 16 HZ.out HL.out;have hr5:=(hB.block b0 (by omega) (by omega)).trans HR.out;rw[jp]at hv;clear hB HVr;go_wp2_with ((with_reducible show wpList _ _ _ (Oper.mk (some 23) _ _ _ _ _::_) _ _);refine wpList_load_row rfl 257 _ rfl (b0+1) rfl _ _ _ _ hv Tryz.underlying257 rfl (by rw[qe,hW.1];kernel_rfl) ?_;refine wpList_store_row rfl 257 _ _ rfl b0 (qh .u64 (QS 8 16 zs)) rfl rfl 257 _ hr5 (by rw[qe,hW.1];kernel_rfl) (by rw[qe,hW.1];rfl) qv ?_)
   exact Bp (qB rfl _ _ _ _ _ _ _ rfl (setRow_heap _ _ _ _ _ _ hr5) Tryz.underlying257 rfl (by rw[qe,hW.1];kernel_rfl)) rfl ⟨rfl,below_setRow (HBw.out.mono (by omega)) (by omega) _⟩
def yE (L:List Int)(f:Nat→Int):Nat→List Int
 | 0=>L
 | j+1=>(yE L f j).set j (f j)
theorem yc (L:List Int)(f:Nat→Int): ∀j,(yE L f j).length=L.length
 | 0=>rfl
 | j+1=>by simp[yE,yc L f j]
theorem qdO (L:List Int)(f:Nat→Int): ∀j i,i<j→i<L.length→(yE L f j)[i]? =some (f i)
 | j+1,i,h,hc=>by
  simp only[yE];by_cases e:i=j
  ·subst e;rw[List.getElem?_set_self (by rw[yc];exact hc)]
  ·rw[List.getElem?_set_ne (Ne.symm e)];exact qdO L f j i (by omega) hc
theorem Yl (L:List Int)(f:Nat→Int): ∀j i,j≤i→wd (yE L f j) i=wd L i
 | 0,i,_=>rfl
 | j+1,i,h=>by
  have ih:=Yl L f j i (by omega);simp only[yE];unfold wd at*;rw[Lg,List.getElem?_set_ne (by omega),←Lg];exact ih
theorem jq (L:List Int)(f:Nat→Int):yE L f L.length=(List.range L.length).map f:=by
 apply List.ext_getElem?
 intro i;by_cases h:i<L.length
 ·rw[qdO L f _ i h h];simp[h]
 ·rw[List.getElem?_eq_none (by rw[yc];omega),List.getElem?_eq_none (by simp;omega)]
def Yr (k:IntKind)(iv:List Int)(n:Nat)(zs:List Int)(i:Nat):Int:=bits .xor k (wd iv i) (Qg zs (n*i) n)
def yn (k:IntKind)(iv:List Int)(n:Nat)(zs:List Int):List Int:=(List.range 8).map (Yr k iv n zs)
theorem Yq {k:IntKind}{N:Nat}(hm: ∀z,k.wrap z=z%2^N)(iv:List Int)(n:Nat)(zs:List Int):Words N 8 (yn k iv n zs):=by
 refine⟨by simp[yn],fun x hx=>?_⟩;simp only[yn,List.mem_map,List.mem_range]at hx;obtain⟨i,hi,rfl⟩:=hx;exact qW _ _ _ hm _ _
theorem qeh (zs:List Int)(v:Value)(w:World)(h:Holds8 w v zs)(hz: ∀z∈zs,0≤z∧z≤255)(hl:zs.length=64):
  Calls Tryz.prog 188 #[v] w fun e w'=>e= .returned (.tuple #[.agg (qh .u64 (yn .u64 IVb 8 zs)),.int .i64 0])∧Below w.heap.size w w':=by
 obtain⟨a,cap,rfl⟩:=h.slice;obtain⟨b0,hb0⟩:=Ex w.heap.size;have H:=hid h;have HZ:=hid hz;have HL:=hid hl;rw[hl]at H⊢;clear h hz hl;go_enter Tryz.func188,Tryz.ntmps188
 go_wp2_with fail
 refine(qfv _).mono ?_;rintro e1 w1 ⟨rfl,hb1⟩;have hr0:=(hb1.block b0 (by simp;omega)).trans (qc _ _ hb0.symm);have hs0:b0+1≤w1.heap.size:=by have:=hb1.size;simp at this;omega
 have hB0:Below w.heap.size w w1:=((Below.refl w.heap.size w).alloc Nl _).trans (hb1.mono (by simp));clear hb1;go_wp2_with fail
 refine qj ?_;intro W hW;obtain⟨bv,hbv⟩:=Ex w1.heap.size;have hr:W.heap[b0]? =some (.cells #[.int .u64 0,.int .u64 0,.int .u64 0,.int .u64 0,.int .u64 0,.int .u64 0,.int .u64 0,.int .u64 0] 278 (0,0)):=by
  rw[hW];exact(Bh _ _ _ (by omega)).trans hr0
 have hv:W.heap[bv]? =some (.cells (qh .u64 (yE IVb (Yr .u64 IVb 8 zs) 0)) 278 (0,0)):=by
  rw[hW];exact qc _ _ hbv.symm
 have hB:Below w.heap.size w W:=by
  rw[hW];exact hB0.alloc (by omega) _
 rw[hbv];have hbb:b0+1≤bv:=by omega
 clear hW hr0 hs0 hB0 hbv;have hs1:bv<W.heap.size:=(Ai hv).1;have HR:=hid hr;have HV:=hid hv;have HB:=hid hB;clear hr hv hB;go_loopw [13] (fun i wr=> ∃j:Nat,i= .int .i64 j∧j≤8∧wr.heap[bv]? =some (.cells (qh .u64 (yE IVb (Yr .u64 IVb 8 zs) j)) 278 (0,0))∧But bv W wr) (fun i _=>8 - (intOf i).toNat)
 case atStart=>exact⟨0,rfl,Nat.zero_le _,HV.out,But.refl _ _⟩
 case round=>
  obtain⟨j,rfl,hj,hv,hB⟩:=hrel;have hsz:=hB.size;have HVr:=hid hv;have HBr:=hid hB;have HBw:=hid (HB.out.trans (hB.below (by omega) HB.out.size));have hvs:bv<wr.heap.size:=(Ai hv).1;by_cases hlt:j<8
  ·have c2:wr.cell? ⟨bv,j,none⟩=some (.int .u64 (wd IVb j)):=by
    rw[qm hv,yf (n:=8) (by rw[yc];rfl) (by omega),Yl _ _ _ _ Nl]
   have f2: ∀o,wr.frozen? ⟨bv,o,none⟩=false:=(qJ hv).2;have e8:IntKind.i64.wrap (8*(j:Int))=((8*j:Nat):Int):=by rw[IntKind.wrap_i64];omega
   have HLd:=hid (qa8 zs (.slice a 64 cap) (8*j) wr (qT H.out HBw.out) HZ.out (by have:=HL.out;omega) (by have:=HL.out;omega));have e9:((8*j:Nat):Int)=8*(j:Int):=by omega
   have hrange:8*(j:Int)≤64:=by omega
   rw[e9]at HLd;clear hv hB e8 e9;go_wp2_with fail
   refine HLd.out.mono ?_;rintro e2 w2 ⟨rfl,rfl⟩;go_wp2
   exact⟨⟨j+1,rfl,by omega,by rw[yE,←Qd];exact block_setCell HVr.out _,HBr.out.set _ _⟩,by simp[intOf];omega⟩
  ·obtain rfl:j=8:=by omega
   have hW:=Yq (k:= .u64) (N:=64) (fun z=>IntKind.wrap_u64 z) IVb 8 zs;have hr5:=(hB.block b0 (by omega) (by omega)).trans HR.out;have hall:(yE IVb (Yr .u64 IVb 8 zs) 8)=yn .u64 IVb 8 zs:=jq _ _;rw[hall]at hv;clear hB HVr hall;go_wp2_with ((with_reducible show wpList _ _ _ (Oper.mk (some 30) _ _ _ _ _::_) _ _);refine wpList_load_row rfl 278 _ rfl bv rfl _ _ _ _ hv Tryz.underlying278 rfl (by rw[qe,hW.1];kernel_rfl) ?_;refine wpList_store_row rfl 278 _ _ rfl b0 (qh .u64 (yn .u64 IVb 8 zs)) rfl rfl 278 _ hr5 (by rw[qe,hW.1];kernel_rfl) (by rw[qe,hW.1];rfl) qv ?_)
   exact Bp (qB rfl _ _ _ _ _ _ _ rfl (setRow_heap _ _ _ _ _ _ hr5) Tryz.underlying278 rfl (by rw[qe,hW.1];kernel_rfl)) rfl ⟨rfl,below_setRow (HBw.out.mono (by omega)) (by omega) _⟩
theorem qer (zs:List Int)(v:Value)(w:World)(h:Holds8 w v zs)(hz: ∀z∈zs,0≤z∧z≤255)(hl:zs.length=64):
  Calls Tryz.prog 210 #[v] w fun e w'=>e= .returned (.tuple #[.agg (qh .u64 (yn .u64 IVb 8 zs)),.int .i64 0])∧Below w.heap.size w w':=by
 obtain⟨a,cap,rfl⟩:=h.slice;obtain⟨b0,hb0⟩:=Ex w.heap.size;have H:=hid h;have HZ:=hid hz;have HL:=hid hl;rw[hl]at H⊢;clear h hz hl;go_enter Tryz.func210,Tryz.ntmps210
 go_wp2_with fail
 refine qj ?_;intro W hW;obtain⟨bv,hbv⟩:=Ex (b0+1);have hr:W.heap[b0]? =some (.cells #[.int .u64 0,.int .u64 0,.int .u64 0,.int .u64 0,.int .u64 0,.int .u64 0,.int .u64 0,.int .u64 0] 278 (0,0)):=by
  rw[hW];exact(Bh _ _ _ (by simp;omega)).trans (qc _ _ hb0.symm)
 have hv:W.heap[bv]? =some (.cells (qh .u64 (yE [0,0,0,0,0,0,0,0] (Yr .u64 IVb 8 zs) 0)) 278 (0,0)):=by
  rw[hW];exact qc _ _ (by simp;omega)
 have hB:Below w.heap.size w W:=by
  rw[hW];exact((Below.refl w.heap.size w).alloc Nl _).alloc (by simp) _
 rw[hbv];have hbb:b0+1≤bv:=by omega
 clear hW hbv;have hs1:bv<W.heap.size:=(Ai hv).1;have HR:=hid hr;have HV:=hid hv;have HB:=hid hB;clear hr hv hB;go_loopw [5] (fun i wr=> ∃j:Nat,i= .int .i64 j∧j≤8∧wr.heap[bv]? =some (.cells (qh .u64 (yE [0,0,0,0,0,0,0,0] (Yr .u64 IVb 8 zs) j)) 278 (0,0))∧But bv W wr) (fun i _=>8 - (intOf i).toNat)
 case atStart=>exact⟨0,rfl,Nat.zero_le _,HV.out,But.refl _ _⟩
 case round=>
  obtain⟨j,rfl,hj,hv,hB⟩:=hrel;have hsz:=hB.size;have HVr:=hid hv;have HBr:=hid hB;have HBw:=hid (HB.out.trans (hB.below (by omega) HB.out.size));have hvs:bv<wr.heap.size:=(Ai hv).1;by_cases hlt:j<8
  ·have c2:wr.cell? ⟨bv,j,none⟩=some (.int .u64 (wd [0,0,0,0,0,0,0,0] j)):=by
    rw[qm hv,yf (n:=8) (by rw[yc];rfl) (by omega),Yl _ _ _ _ Nl]
   have f2: ∀o,wr.frozen? ⟨bv,o,none⟩=false:=(qJ hv).2;have e8:IntKind.i64.wrap (8*(j:Int))=((8*j:Nat):Int):=by rw[IntKind.wrap_i64];omega
   have HLd:=hid (qa0 zs (.slice a 64 cap) (8*j) wr (qT H.out HBw.out) HZ.out (by have:=HL.out;omega) (by have:=HL.out;omega));have e9:((8*j:Nat):Int)=8*(j:Int):=by omega
   have hrange:8*(j:Int)≤64:=by omega
   rw[e9]at HLd;clear hv hB e8 e9;go_wp2_with fail
   refine HLd.out.mono ?_;rintro e2 w2 ⟨rfl,rfl⟩;go_wp2_with fail
   refine(qbY j hlt _).mono ?_;rintro e3 w3 ⟨rfl,hb3⟩;have hv3:=(hb3.block bv hvs).trans HVr.out;have HV3:=hid hv3;have HB3:=hid (HBr.out.trans (But.of_below (b:=bv) hb3));have c3:w3.cell? ⟨bv,j,none⟩=some (.int .u64 (wd [0,0,0,0,0,0,0,0] j)):=by
    rw[qm hv3,yf (n:=8) (by rw[yc];rfl) (by omega),Yl _ _ _ _ Nl]
   have f3: ∀o,w3.frozen? ⟨bv,o,none⟩=false:=(qJ hv3).2;clear c2 f2 hb3 hv3;go_wp2
   exact⟨⟨j+1,rfl,by omega,by rw[yE,←Qd];exact block_setCell HV3.out _,HB3.out.set _ _⟩,by simp[intOf];omega⟩
  ·obtain rfl:j=8:=by omega
   have hW:=Yq (k:= .u64) (N:=64) (fun z=>IntKind.wrap_u64 z) IVb 8 zs;have hr5:=(hB.block b0 (by omega) (by omega)).trans HR.out;have hall:(yE [0,0,0,0,0,0,0,0] (Yr .u64 IVb 8 zs) 8)=yn .u64 IVb 8 zs:=jq _ _;rw[hall]at hv;clear hB HVr hall;go_wp2_with ((with_reducible show wpList _ _ _ (Oper.mk (some 29) _ _ _ _ _::_) _ _);refine wpList_load_row rfl 278 _ rfl bv rfl _ _ _ _ hv Tryz.underlying278 rfl (by rw[qe,hW.1];kernel_rfl) ?_;refine wpList_store_row rfl 278 _ _ rfl b0 (qh .u64 (yn .u64 IVb 8 zs)) rfl rfl 278 _ hr5 (by rw[qe,hW.1];kernel_rfl) (by rw[qe,hW.1];rfl) qv ?_)
   exact Bp (qB rfl _ _ _ _ _ _ _ rfl (setRow_heap _ _ _ _ _ _ hr5) Tryz.underlying278 rfl (by rw[qe,hW.1];kernel_rfl)) rfl ⟨rfl,below_setRow (HBw.out.mono (by omega)) (by omega) _⟩
theorem qhg (zs:List Int)(v:Value)(at_:Nat)(w:World)(h:Holds8 w v zs)(hz: ∀z∈zs,0≤z∧z≤255)(hl:at_+4≤zs.length)(hm:zs.length≤4294967296):
  Calls Tryz.prog 131 #[v,.int .i64 (at_:Nat),.int .i64 4] w fun e w'=>e= .returned (.tuple #[.int .u64 (Qg zs at_ 4),.int .i64 0])∧w'=w:=by
 obtain⟨a,cap,rfl,h⟩:=h;obtain⟨b,off,rfl,h1,h2⟩:=h.resolve_left (fun e=>by rw[e]at hl;simp at hl);have HC:=hid h2;clear h h2;go_enter Tryz.func131,Tryz.ntmps131
 go_wp2_with fail
 go_loopw [8,25] (fun s i wr=> ∃k:Nat,s= .int .u64 (Qg zs at_ k)∧i= .int .i64 k∧w=wr∧k≤4) (fun _ i _=>4 - (intOf i).toNat)
 case atStart=>exact⟨0,rfl,rfl,rfl,by omega⟩
 case round=>
  obtain⟨k,rfl,rfl,rfl,hk⟩:=hrel;by_cases hlt:k<4
  ·have hc:=HC.out (at_+k) (by omega);have hv:=orZ (Qg zs at_ k) (qn zs (at_+k)) k (by omega) (QC hz k (by omega)) (qS hz (by omega)).2;go_wp2
   exact⟨⟨k+1,rfl,rfl,by trivial,by omega⟩,by simp[intOf];omega⟩
  ·obtain rfl:k=4:=by omega
   go_wp2
   exact Bp (results_tmp2 (fn:=Tryz.f131) (t:=6) (u:=7) rfl _ _ _) rfl ⟨rfl,rfl⟩
theorem qeN (zs:List Int)(v:Value)(at_:Nat)(w:World)(h:Holds8 w v zs)(hz: ∀z∈zs,0≤z∧z≤255)(hl:at_+4≤zs.length)(hm:zs.length≤4294967296):
  Calls Tryz.prog 221 #[v,.int .i64 (at_:Nat)] w fun e w'=>e= .returned (.tuple #[.int .u32 (Qg zs at_ 4),.int .i64 0])∧w'=w:=by
 have H:=hid (qhg zs v at_ w h hz hl hm);have hb:=QC hz (at_:=at_) 4 hl;simp only[Nat.reduceMul,Int.reducePow]at hb;obtain⟨x,hx⟩:=Ex (Qg zs at_ 4);rw[hx]at H hb⊢;obtain⟨hb1,hb2⟩:=hb;clear hx;go_enter Tryz.func221,Tryz.ntmps221
 go_wp2_with fail
 refine H.out.mono ?_;rintro e w1 ⟨rfl,rfl⟩;go_wp2
 exact Bp (results_tmp2 rfl _ _ _) rfl ⟨rfl,rfl⟩
theorem qdf (n:Nat)(a:Option Addr)(cap:Nat)(w:World):Calls Tryz.prog 205 #[.slice a n cap,.int .i64 n] w fun e w'=>e= .returned (.int .i64 0)∧w'=w:=by
 go_enter Tryz.func205,Tryz.ntmps205
 go_wp2
 go_ret
 exact⟨rfl,rfl⟩
theorem j7 (c:Nat)(hc:c≤16)(bv:Nat)(T:TypeId)(zs:List Int)(v:Value)(w:World)(h:Holds8 w v zs)(hz: ∀z∈zs,0≤z∧z≤255)(hl:zs.length=4*c)(hv:w.heap[bv]? =some (.cells (qh .u32 (yy 4 c zs 0)) T (0,0)))
  (hne: ∀w',But bv w w'→Holds8 w' v zs):
  Calls Tryz.prog 206 #[.slice (some ⟨bv,0,none⟩) c c,v] w fun e w'=>e= .returned (.tuple #[])∧w'.heap[bv]? =some (.cells (qh .u32 (QS 4 c zs)) T (0,0))∧But bv w w':=by
 have HN:=hid hne;have HZ:=hid hz;have HL:=hid hl;have HV:=hid hv;clear h hz hl hv hne;go_enter Tryz.func206,Tryz.ntmps206
 go_wp2_with fail
 go_loopw [7] (fun i wr=> ∃j:Nat,i= .int .i64 j∧j≤c∧wr.heap[bv]? =some (.cells (qh .u32 (yy 4 c zs j)) T (0,0))∧But bv w wr) (fun i _=>c - (intOf i).toNat)
 case atStart=>exact⟨0,rfl,Nat.zero_le _,HV.out,But.refl _ _⟩
 case round=>
  obtain⟨j,rfl,hj,hv,hB⟩:=hrel;have HVr:=hid hv;have HBr:=hid hB;by_cases hlt:j<c
  ·have c2:wr.cell? ⟨bv,j,none⟩=some (.int .u32 (wd (yy 4 c zs j) j)):=(qm hv _).trans (yf (yw _ _ _ _) hlt);have f2: ∀o,wr.frozen? ⟨bv,o,none⟩=false:=(qJ hv).2;have e9:((4*j:Nat):Int)=4*(j:Int):=by omega
   have HLd:=hid (qeN zs v (4*j) wr (HN.out wr hB) HZ.out (by have:=HL.out;omega) (by have:=HL.out;omega));have hrange:4*(j:Int)≤64:=by omega
   rw[e9]at HLd;clear hv hB e9;go_wp2_with fail
   refine HLd.out.mono ?_;rintro e2 w2 ⟨rfl,rfl⟩;go_wp2
   exact⟨⟨j+1,rfl,by omega,by rw[yy,←Qd];exact block_setCell HVr.out _,HBr.out.set _ _⟩,by simp[intOf];omega⟩
  ·obtain rfl:j=c:=by omega
   rw[jp]at hv;have HV2:=hid hv;clear hv hB;go_wp2
   exact bodyPost_end (results_none rfl _ _ _) rfl ⟨rfl,HV2.out,HBr.out⟩
theorem val4 (zs:List Int)(i:Nat):Qg zs i 4=qn zs i+qn zs (i+1)*256+qn zs (i+2)*65536+qn zs (i+3)*16777216:=by
 simp only[Qg,Nat.reduceMul,Int.reducePow,Nat.add_zero];omega
theorem qaf (zs:List Int)(v:Value)(at_:Nat)(w:World)(h:Holds8 w v zs)(hz: ∀z∈zs,0≤z∧z≤255)(hl:at_+4≤zs.length)(hm:zs.length≤4294967296):
  Calls Tryz.prog 215 #[v,.int .i64 (at_:Nat)] w fun e w'=>e= .returned (.int .u32 (Qg zs at_ 4))∧ ∃m,w'=w.drewN m:=by
 obtain⟨a,cap,rfl,h⟩:=h;obtain⟨b,off,rfl,h1,h2⟩:=h.resolve_left (fun e=>by rw[e]at hl;simp at hl);have hc0:=h2 at_ (by omega);have hc1:=h2 (at_+1) (by omega);have hc2:=h2 (at_+2) (by omega);have hc3:=h2 (at_+3) (by omega);obtain⟨-,x0,x1⟩:=qS hz (show at_<zs.length by omega);obtain⟨-,y0,y1⟩:=qS hz (show at_+1<zs.length by omega);obtain⟨-,z0,z1⟩:=qS hz (show at_+2<zs.length by omega);obtain⟨-,t0,t1⟩:=qS hz (show at_+3<zs.length by omega);rw[val4];generalize qn zs at_=x at*;generalize qn zs (at_+1)=y at*;generalize qn zs (at_+2)=z at*;generalize qn zs (at_+3)=t at*;have e1:IntKind.i64.wrap ((at_:Int)+1)=((at_+1:Nat):Int):=by rw[IntKind.wrap_i64];omega
 have e2:IntKind.i64.wrap ((at_:Int)+2)=((at_+2:Nat):Int):=by rw[IntKind.wrap_i64];omega
 have e3:IntKind.i64.wrap ((at_:Int)+3)=((at_+3:Nat):Int):=by rw[IntKind.wrap_i64];omega
 have l0:at_<zs.length:=by omega
 have l1:at_+1<zs.length:=by omega
 have l2:at_+2<zs.length:=by omega
 have l3:at_+3<zs.length:=by omega
 clear h h2 hz;go_enter Tryz.func215,Tryz.ntmps215
 go_wp2_with fail
 go_quiet (fail)
 go_wp2
 go_ret
 exact⟨rfl,nq,rfl⟩
theorem qeb (zs:List Int)(v:Value)(w:World)(h:Holds8 w v zs)(hz: ∀z∈zs,0≤z∧z≤255)(hl:zs.length=64):
  Calls Tryz.prog 208 #[v] w fun e w'=>e= .returned (.tuple #[.agg (qh .u32 (QS 4 16 zs)),.int .i64 0])∧Below w.heap.size w w':=by
 obtain⟨a,cap,rfl⟩:=h.slice;obtain⟨b0,hb0⟩:=Ex w.heap.size;have H:=hid h;have HZ:=hid hz;have HL:=hid hl;rw[hl]at H⊢;clear h hz hl;go_enter Tryz.func208,Tryz.ntmps208
 go_wp2_with fail
 refine(qdf 64 a cap _).mono ?_;rintro e1 w1 ⟨rfl,hw1⟩;have hr:w1.heap[b0]? =some (.cells #[.int .u32 0,.int .u32 0,.int .u32 0,.int .u32 0,.int .u32 0,.int .u32 0,.int .u32 0,.int .u32 0,.int .u32 0,.int .u32 0,.int .u32 0,.int .u32 0,.int .u32 0,.int .u32 0,.int .u32 0,.int .u32 0] 302 (0,0)):=by
  rw[hw1];exact(Bh _ _ _ (by simp;omega)).trans (qc _ _ hb0.symm)
 have hv:w1.heap[b0+1]? =some (.cells (qh .u32 (yy 4 16 zs 0)) 302 (0,0)):=by
  rw[hw1];exact qc _ _ (by simp;omega)
 have hB:Below w.heap.size w w1:=by
  rw[hw1];exact((Below.refl w.heap.size w).alloc Nl _).alloc (by simp) _
 clear hw1;have HB:=hid hB;have HR:=hid hr;have HV:=hid hv;clear hr hv hB;go_wp2_with fail
 refine(j7 16 (by decide) (b0+1) 302 zs (.slice a 64 cap) w1 (qT H.out HB.out) HZ.out HL.out HV.out (fun w' hw'=>qT H.out (HB.out.trans (hw'.below (by omega) HB.out.size)))).mono ?_;rintro e2 w2 ⟨rfl,hv2,hB2⟩
 have hW:=Q5 4 16 HZ.out HL.out;have hr5:=(hB2.block b0 (by have:=(Ai HR.out).1;omega) (by omega)).trans HR.out;have HB5:=hid (HB.out.trans (hB2.below (by omega) HB.out.size));clear hB2;go_wp2_with ((with_reducible show wpList _ _ _ (Oper.mk (some 15) _ _ _ _ _::_) _ _);refine wpList_load_row rfl 302 _ rfl (b0+1) rfl _ _ _ _ hv2 Tryz.underlying302 rfl (by rw[qe,hW.1];kernel_rfl) ?_;refine wpList_store_row rfl 302 _ _ rfl b0 (qh .u32 (QS 4 16 zs)) rfl rfl 302 _ hr5 (by rw[qe,hW.1];kernel_rfl) (by rw[qe,hW.1];rfl) qv ?_)
 exact Bp (qB rfl _ _ _ _ _ _ _ rfl (setRow_heap _ _ _ _ _ _ hr5) Tryz.underlying302 rfl (by rw[qe,hW.1];kernel_rfl)) rfl ⟨rfl,below_setRow (HB5.out.mono (by omega)) (by omega) _⟩
theorem qbE (zs:List Int)(v:Value)(w:World)(h:Holds8 w v zs)(hz: ∀z∈zs,0≤z∧z≤255)(hl:zs.length=64):
  Calls Tryz.prog 200 #[v] w fun e w'=>e= .returned (.tuple #[.agg (qh .u32 (QS 4 16 zs)),.int .i64 0])∧Below w.heap.size w w':=by
 obtain⟨a,cap,rfl⟩:=h.slice;obtain⟨b0,hb0⟩:=Ex w.heap.size;have H:=hid h;have HZ:=hid hz;have HL:=hid hl;rw[hl]at H⊢;clear h hz hl;go_enter Tryz.func200,Tryz.ntmps200
 go_wp2_with fail
 refine qj ?_;intro W hW;have hr:W.heap[b0]? =some (.cells #[.int .u32 0,.int .u32 0,.int .u32 0,.int .u32 0,.int .u32 0,.int .u32 0,.int .u32 0,.int .u32 0,.int .u32 0,.int .u32 0,.int .u32 0,.int .u32 0,.int .u32 0,.int .u32 0,.int .u32 0,.int .u32 0] 302 (0,0)):=by
  rw[hW];exact(Bh _ _ _ (by simp;omega)).trans (qc _ _ hb0.symm)
 have hv:W.heap[b0+1]? =some (.cells (qh .u32 (yy 4 16 zs 0)) 302 (0,0)):=by
  rw[hW];exact qc _ _ (by simp;omega)
 have hB:Below w.heap.size w W:=by
  rw[hW];exact((Below.refl w.heap.size w).alloc Nl _).alloc (by simp) _
 have hs1:b0+1<W.heap.size:=(Ai hv).1;clear hW;have HR:=hid hr;have HV:=hid hv;have HB:=hid hB;clear hr hv hB;go_loopw [5] (fun i wr=> ∃j:Nat,i= .int .i64 j∧j≤16∧wr.heap[b0+1]? =some (.cells (qh .u32 (yy 4 16 zs j)) 302 (0,0))∧But (b0+1) W wr) (fun i _=>16 - (intOf i).toNat)
 case atStart=>exact⟨0,rfl,Nat.zero_le _,HV.out,But.refl _ _⟩
 case round=>
  obtain⟨j,rfl,hj,hv,hB⟩:=hrel;have hsz:=hB.size;have HVr:=hid hv;have HBr:=hid hB;have HBw:=hid (HB.out.trans (hB.below (by omega) HB.out.size));by_cases hlt:j<16
  ·have e9:((4*j:Nat):Int)=4*(j:Int):=by omega
   have HLd:=hid (qaf zs (.slice a 64 cap) (4*j) wr (qT H.out HBw.out) HZ.out (by have:=HL.out;omega) (by have:=HL.out;omega));have hrange:4*(j:Int)≤64:=by omega
   rw[e9]at HLd;clear hB e9;go_wp2_with fail
   refine HLd.out.mono ?_;rintro e2 w2 ⟨rfl,m,rfl⟩;have c2:(wr.drewN m).cell? ⟨b0+1,j,none⟩=some (.int .u32 (wd (yy 4 16 zs j) j)):=(qm (W:=wr.drewN m) hv _).trans (yf (yw _ _ _ _) (by omega));have f2: ∀o,(wr.drewN m).frozen? ⟨b0+1,o,none⟩=false:=(qJ (W:=wr.drewN m) hv).2;go_wp2
   exact⟨⟨j+1,rfl,by omega,by rw[yy,←Qd];exact block_setCell (w:=wr.drewN m) HVr.out _,(HBr.out.drewN m).set _ _⟩,by simp[intOf];omega⟩
  ·obtain rfl:j=16:=by omega
   have hW:=Q5 4 16 HZ.out HL.out;have hr5:=(hB.block b0 (by omega) (by omega)).trans HR.out;rw[jp]at hv;clear hB HVr;go_wp2_with ((with_reducible show wpList _ _ _ (Oper.mk (some 26) _ _ _ _ _::_) _ _);refine wpList_load_row rfl 302 _ rfl (b0+1) rfl _ _ _ _ hv Tryz.underlying302 rfl (by rw[qe,hW.1];kernel_rfl) ?_;refine wpList_store_row rfl 302 _ _ rfl b0 (qh .u32 (QS 4 16 zs)) rfl rfl 302 _ hr5 (by rw[qe,hW.1];kernel_rfl) (by rw[qe,hW.1];rfl) qv ?_)
   exact Bp (qB rfl _ _ _ _ _ _ _ rfl (setRow_heap _ _ _ _ _ _ hr5) Tryz.underlying302 rfl (by rw[qe,hW.1];kernel_rfl)) rfl ⟨rfl,below_setRow (HBw.out.mono (by omega)) (by omega) _⟩
theorem qfH (n c:Nat)(zs:List Int){i:Nat}(hi:i<c):wd (QS n c zs) i=Qg zs (n*i) n:=by
 simp[wd,QS,Lg,hi]
theorem qei (zs:List Int)(v:Value)(w:World)(h:Holds8 w v zs)(hz: ∀z∈zs,0≤z∧z≤255)(hl:zs.length=32):
  Calls Tryz.prog 191 #[v] w fun e w'=>e= .returned (.tuple #[.agg (qh .u32 (yn .u32 IVs 4 zs)),.int .i64 0])∧Below w.heap.size w w':=by
 obtain⟨a,cap,rfl⟩:=h.slice;obtain⟨b0,hb0⟩:=Ex w.heap.size;have H:=hid h;have HZ:=hid hz;have HL:=hid hl;rw[hl]at H⊢;clear h hz hl;go_enter Tryz.func191,Tryz.ntmps191
 go_wp2_with fail
 refine(qdf 32 a cap _).mono ?_;rintro e1 w1 ⟨rfl,hw1⟩;have hr1:w1.heap[b0]? =some (.cells #[.int .u32 0,.int .u32 0,.int .u32 0,.int .u32 0,.int .u32 0,.int .u32 0,.int .u32 0,.int .u32 0] 288 (0,0)):=by
  rw[hw1];exact qc _ _ hb0.symm
 have hB1:Below w.heap.size w w1:=by
  rw[hw1];exact(Below.refl w.heap.size w).alloc Nl _
 have hs1:w1.heap.size=b0+1:=by rw[hw1];simp;omega
 clear hw1;go_wp2_with fail
 have hv1:(w1.alloc (.cells #[.int .u32 0,.int .u32 0,.int .u32 0,.int .u32 0,.int .u32 0,.int .u32 0,.int .u32 0,.int .u32 0] 288 (0,0))).heap[b0+1]? =some (.cells (qh .u32 (yy 4 8 zs 0)) 288 (0,0)):=qc _ _ hs1.symm;have hB1':=hB1.alloc (by omega) (.cells #[.int .u32 0,.int .u32 0,.int .u32 0,.int .u32 0,.int .u32 0,.int .u32 0,.int .u32 0,.int .u32 0] 288 (0,0));refine(j7 8 (by decide) (b0+1) 288 zs (.slice a 32 cap) _ (qT H.out hB1') HZ.out HL.out hv1 (fun w' hw'=>qT H.out (hB1'.trans (hw'.below (by omega) hB1'.size)))).mono ?_;rintro e2 w2 ⟨rfl,hv2,hB2⟩
 have hr2:=(hB2.block b0 (by simp;omega) (by omega)).trans ((Bh _ _ _ (by omega)).trans hr1);have hB2':=hB1'.trans (hB2.below (by omega) hB1'.size);have hs2:b0+1<w2.heap.size:=(Ai hv2).1;clear hB2 hr1 hB1 hv1 hB1' hs1;go_wp2_with fail
 refine(qfu _).mono ?_;rintro e3 w3 ⟨rfl,hb3⟩;have hp3:=(hb3.block (b0+1) hs2).trans hv2;have hr3:=(hb3.block b0 (by omega)).trans hr2;have hB3:=hB2'.trans (hb3.mono hB2'.size);have hs3:b0+1<w3.heap.size:=(Ai hp3).1;clear hb3 hv2 hr2 hB2' hs2;go_wp2_with fail
 refine qj ?_;intro W hW;obtain⟨bv,hbv⟩:=Ex w3.heap.size;have hr:W.heap[b0]? =some (.cells #[.int .u32 0,.int .u32 0,.int .u32 0,.int .u32 0,.int .u32 0,.int .u32 0,.int .u32 0,.int .u32 0] 288 (0,0)):=by rw[hW];exact(Bh _ _ _ (by omega)).trans hr3
 have hp:W.heap[b0+1]? =some (.cells (qh .u32 (QS 4 8 zs)) 288 (0,0)):=by rw[hW];exact(Bh _ _ _ (by omega)).trans hp3
 have hv:W.heap[bv]? =some (.cells (qh .u32 (yE IVs (Yr .u32 IVs 4 zs) 0)) 288 (0,0)):=by rw[hW];exact qc _ _ hbv.symm
 have hB:Below w.heap.size w W:=by rw[hW];exact hB3.alloc (by omega) _
 rw[hbv];have hbb:b0+1<bv:=by omega
 have hsv:bv<W.heap.size:=(Ai hv).1;clear hW hr3 hp3 hB3 hs3 hbv;have HR:=hid hr;have HP:=hid hp;have HV:=hid hv;have HB:=hid hB;clear hr hp hv hB;go_loopw [18] (fun i wr=> ∃j:Nat,i= .int .i64 j∧j≤8∧wr.heap[bv]? =some (.cells (qh .u32 (yE IVs (Yr .u32 IVs 4 zs) j)) 288 (0,0))∧But bv W wr) (fun i _=>8 - (intOf i).toNat)
 case atStart=>exact⟨0,rfl,Nat.zero_le _,HV.out,But.refl _ _⟩
 case round=>
  obtain⟨j,rfl,hj,hv,hB⟩:=hrel;have hsz:=hB.size;have HVr:=hid hv;have HBr:=hid hB;have HBw:=hid (HB.out.trans (hB.below (by omega) HB.out.size));have hvs:bv<wr.heap.size:=(Ai hv).1;by_cases hlt:j<8
  ·have c2:wr.cell? ⟨bv,j,none⟩=some (.int .u32 (wd IVs j)):=by
    rw[qm hv,yf (n:=8) (by rw[yc];rfl) (by omega),Yl _ _ _ _ Nl]
   have c1:wr.cell? ⟨b0+1,j,none⟩=some (.int .u32 (Qg zs (4*j) 4)):=by
    rw[qm ((hB.block (b0+1) (by omega) (by omega)).trans HP.out),yf (n:=8) (by simp[QS]) (by omega),qfH _ _ _ hlt]
   have f2: ∀o,wr.frozen? ⟨bv,o,none⟩=false:=(qJ hv).2;have q1:b0+1<wr.heap.size:=by omega
   clear hv hB;go_wp2_with fail
   refine qi (by dsimp only[List.dropLast]) (by rfl) (by rfl) (by kernel_rfl) (by kernel_rfl) (by kernel_rfl) (by kernel_rfl) ?_;repeat(go_big_quiet_step (fail))
   refine wpQuiet_nil ?_;intro _ hw';obtain⟨n1,rfl⟩:=hw';go_wp2
   exact⟨⟨j+1,rfl,by omega,by rw[yE,←Qd];exact block_setCell (w:=wr.drewN n1) HVr.out _,(HBr.out.drewN n1).set _ _⟩,by simp[intOf];omega⟩
  ·obtain rfl:j=8:=by omega
   have hW:=Yq (k:= .u32) (N:=32) (fun z=>IntKind.wrap_u32 z) IVs 4 zs;have hr5:=(hB.block b0 (by omega) (by omega)).trans HR.out;have hall:(yE IVs (Yr .u32 IVs 4 zs) 8)=yn .u32 IVs 4 zs:=jq _ _;rw[hall]at hv;clear hB HVr hall;go_wp2_with ((with_reducible show wpList _ _ _ (Oper.mk (some 30) _ _ _ _ _::_) _ _);refine wpList_load_row rfl 288 _ rfl (bv) rfl _ _ _ _ hv Tryz.underlying288 rfl (by rw[qe,hW.1];kernel_rfl) ?_;refine wpList_store_row rfl 288 _ _ rfl b0 (qh .u32 (yn .u32 IVs 4 zs)) rfl rfl 288 _ hr5 (by rw[qe,hW.1];kernel_rfl) (by rw[qe,hW.1];rfl) qv ?_)
   exact Bp (qB rfl _ _ _ _ _ _ _ rfl (setRow_heap _ _ _ _ _ _ hr5) Tryz.underlying288 rfl (by rw[qe,hW.1];kernel_rfl)) rfl ⟨rfl,below_setRow (HBw.out.mono (by omega)) (by omega) _⟩
theorem qes (zs:List Int)(v:Value)(w:World)(h:Holds8 w v zs)(hz: ∀z∈zs,0≤z∧z≤255)(hl:zs.length=32):
  Calls Tryz.prog 211 #[v] w fun e w'=>e= .returned (.tuple #[.agg (qh .u32 (yn .u32 IVs 4 zs)),.int .i64 0])∧Below w.heap.size w w':=by
 obtain⟨a,cap,rfl⟩:=h.slice;obtain⟨b0,hb0⟩:=Ex w.heap.size;have H:=hid h;have HZ:=hid hz;have HL:=hid hl;rw[hl]at H⊢;clear h hz hl;go_enter Tryz.func211,Tryz.ntmps211
 go_wp2_with fail
 refine(qa2 _).mono ?_;rintro e3 w3 ⟨rfl,hb3⟩;have hr3:=(hb3.block b0 (by simp;omega)).trans ((Bh _ _ _ (by simp;omega)).trans (qc _ _ hb0.symm));have hv3:=(hb3.block (b0+1) (by simp;omega)).trans (qc _ _ (by simp;omega));have hB3:Below w.heap.size w w3:=(((Below.refl w.heap.size w).alloc Nl _).alloc (by simp) _).trans (hb3.mono (by simp;omega));have hs3:b0+1<w3.heap.size:=by have:=hb3.size;simp at this;omega
 clear hb3;go_wp2_with ((with_reducible show wpList _ _ _ (Oper.mk none (Op.store 288 _ _) _ _ _ _::_) _ _);refine wpList_store_row rfl 288 _ _ rfl (b0+1) #[.int .u32 1779033703,.int .u32 3144134277,.int .u32 1013904242,.int .u32 2773480762,.int .u32 1359893119,.int .u32 2600822924,.int .u32 528734635,.int .u32 1541459225] rfl rfl 288 _ hv3 (by kernel_rfl) (by kernel_rfl) (by kernel_rfl) ?_)
 refine qj ?_;intro W hW;have hr:W.heap[b0]? =some (.cells #[.int .u32 0,.int .u32 0,.int .u32 0,.int .u32 0,.int .u32 0,.int .u32 0,.int .u32 0,.int .u32 0] 288 (0,0)):=by rw[hW];exact(setRow_other _ _ _ _ (by omega)).trans hr3
 have hv:W.heap[b0+1]? =some (.cells (qh .u32 (yE IVs (Yr .u32 IVs 4 zs) 0)) 288 (0,0)):=by rw[hW];exact setRow_heap _ _ _ _ _ _ hv3
 have hB:Below w.heap.size w W:=by rw[hW];exact below_setRow hB3 (by omega) _
 have hsv:b0+1<W.heap.size:=(Ai hv).1;clear hW hr3 hv3 hB3 hs3;have HR:=hid hr;have HV:=hid hv;have HB:=hid hB;clear hr hv hB;go_loopw [5] (fun i wr=> ∃j:Nat,i= .int .i64 j∧j≤8∧wr.heap[b0+1]? =some (.cells (qh .u32 (yE IVs (Yr .u32 IVs 4 zs) j)) 288 (0,0))∧But (b0+1) W wr) (fun i _=>8 - (intOf i).toNat)
 case atStart=>exact⟨0,rfl,Nat.zero_le _,HV.out,But.refl _ _⟩
 case round=>
  obtain⟨j,rfl,hj,hv,hB⟩:=hrel;have hsz:=hB.size;have HVr:=hid hv;have HBr:=hid hB;have HBw:=hid (HB.out.trans (hB.below (by omega) HB.out.size));by_cases hlt:j<8
  ·have c2:wr.cell? ⟨b0+1,j,none⟩=some (.int .u32 (wd IVs j)):=by
    rw[qm hv,yf (n:=8) (by rw[yc];rfl) (by omega),Yl _ _ _ _ Nl]
   have f2: ∀o,wr.frozen? ⟨b0+1,o,none⟩=false:=(qJ hv).2;have e9:((4*j:Nat):Int)=4*(j:Int):=by omega
   have HLd:=hid (fun n=>qaf zs (.slice a 32 cap) (4*j) (wr.drewN n) (qT H.out (HBw.out.trans (QL n))) HZ.out (by have:=HL.out;omega) (by have:=HL.out;omega));have e8:IntKind.i64.wrap (4*(j:Int))=((4*j:Nat):Int):=by rw[IntKind.wrap_i64];omega
   have hS:=hid (show Yr .u32 IVs 4 zs j=bits .xor .u32 (wd IVs j) (Qg zs (4*j) 4) from rfl);generalize hk4:4*j=k4 at*;clear hv hB hk4 e9;go_wp2_with fail
   refine qi (by dsimp only[List.dropLast]) (by rfl) (by rfl) (by kernel_rfl) (by kernel_rfl) (by kernel_rfl) (by kernel_rfl) ?_;repeat(go_big_quiet_step (exact Calls.quiet_of (HLd.out _)))
   refine wpQuiet_nil ?_;intro _ hw';obtain⟨n1,rfl⟩:=hw';go_wp2
   exact⟨⟨j+1,rfl,by omega,by rw[yE,←Qd,hS.out];exact block_setCell (w:=wr.drewN n1) HVr.out _,(HBr.out.drewN n1).set _ _⟩,by simp[intOf];omega⟩
  ·obtain rfl:j=8:=by omega
   have hW:=Yq (k:= .u32) (N:=32) (fun z=>IntKind.wrap_u32 z) IVs 4 zs;have hr5:=(hB.block b0 (by omega) (by omega)).trans HR.out;have hall:(yE IVs (Yr .u32 IVs 4 zs) 8)=yn .u32 IVs 4 zs:=jq _ _;rw[hall]at hv;clear hB HVr hall;go_wp2_with ((with_reducible show wpList _ _ _ (Oper.mk (some 31) _ _ _ _ _::_) _ _);refine wpList_load_row rfl 288 _ rfl (b0+1) rfl _ _ _ _ hv Tryz.underlying288 rfl (by rw[qe,hW.1];kernel_rfl) ?_;refine wpList_store_row rfl 288 _ _ rfl b0 (qh .u32 (yn .u32 IVs 4 zs)) rfl rfl 288 _ hr5 (by rw[qe,hW.1];kernel_rfl) (by rw[qe,hW.1];rfl) qv ?_)
   exact Bp (qB rfl _ _ _ _ _ _ _ rfl (setRow_heap _ _ _ _ _ _ hr5) Tryz.underlying288 rfl (by rw[qe,hW.1];kernel_rfl)) rfl ⟨rfl,below_setRow (HBw.out.mono (by omega)) (by omega) _⟩
end Go.Proofs.YtahenngmaoellaaGreat
namespace Go.Proofs.YtahenngmaoellaaGreat
open Go.ChangeShapes Go.WideShapes Go.ChangeAt Go.RowKit Go.Joins Go.Shelf Go.Maps
open Go.Lib (hid)
attribute [local go_sem] Oper.semAt_some YJ
def qI (n:Nat)(h:List Int):Nat→List Int
 | 0=>[]
 | i+1=>qI n h i++qV (wd h i).toNat n
theorem jK (n:Nat)(h:List Int): ∀i,(qI n h i).length=n*i
 | 0=>rfl
 | i+1=>by rw[qI,List.length_append,jK n h i,qU,Nat.mul_succ]
theorem ym {N n:Nat}{L:List Int}(h:Words N n L){i:Nat}(hi:i<n):0≤wd L i∧wd L i<2^N:=by
 have e:wd L i=L[i]'(by rw[h.1];exact hi):=by unfold wd;simp[Lg,h.1,hi]
 rw[e];exact h.2 _ (List.getElem_mem _)
theorem qe9 (x k:Nat):0≤byt x k∧byt x k≤255:=by unfold byt;omega
theorem jM (x k:Nat): ∀z∈qV x k,0≤z∧z≤255:=by
 intro z hz;simp only[qV,List.mem_map]at hz;obtain⟨j, -,rfl⟩:=hz;exact qe9 x j
theorem jL (n:Nat)(h:List Int): ∀i,∀z∈qI n h i,0≤z∧z≤255
 | 0,z,hz=>by simp[qI]at hz
 | i+1,z,hz=>by
  rw[qI,List.mem_append]at hz;rcases hz with hz|hz
  ·exact jL n h i z hz
  ·exact jM _ _ z hz
theorem qg {W W':World}{base:Nat}{e:TypeId}{size:Nat}{v:Value}{n:Nat}{xs:List Value}(h:W.ownsRow base e size v n xs)(hb: ∀g,base≤g→g<W.heap.size→W'.heap[g]? =W.heap[g]?):W'.ownsRow base e size v n xs:=by
 refine⟨h.1,?_⟩;rcases h.2 with h2|⟨g,cap,cur,h1,h2,h3,h4⟩
 ·exact .inl h2
 ·exact .inr ⟨g,cap,cur,h1,h2,(hb g h2 (Ai h3).1).trans h3,h4⟩
theorem qfn {W:World}{base n:Nat}{v:Value}{zs:List Int}(h:W.ownsRow base 5 1 v n (zs.map qo))(h0:0<n):
  ∃g cap,v= .slice (some ⟨g,0,none⟩) n cap∧g<W.heap.size∧ ∀j u,(zs.map qo)[j]? =some u→W.cell? (Addr.add ⟨g,0,none⟩ j)=some u:=by
 rcases h.2 with⟨rfl,h2⟩|⟨g,cap,cur,rfl,hg⟩
 ·omega
 ·exact⟨g,cap,rfl,(h.lt g rfl).2,h.cells (g:=g) rfl⟩
theorem qdQ {zs:List Int}: ∀u∈zs.map qo,u.oneCell'=true:=by
 intro u hu;obtain⟨z, -,rfl⟩:=List.mem_map.1 hu;rfl
theorem QZ {W:World}{base:Nat}{v:Value}{n:Nat}{zs:List Int}(h:W.ownsRow base 5 1 v n (zs.map qo)):Holds8 W v zs:=by
 have hn:n=zs.length:=by have:=h.1;simpa using this.symm
 subst hn;by_cases h0:zs.length=0
 ·have:zs=[]:=List.length_eq_zero_iff.1 h0
  subst this;rcases h.2 with⟨rfl, -⟩|⟨g,cap,cur,rfl, -⟩
  ·exact⟨none,0,rfl,.inl rfl⟩
  ·exact⟨_,cap,rfl,.inl rfl⟩
 ·obtain⟨g,cap,rfl,hg,hc⟩:=qfn h (Nat.pos_of_ne_zero h0);refine⟨_,cap,rfl,.inr ⟨g,0,rfl,hg,fun i hi=>?_⟩⟩;have:=hc i (.int .u8 (qn zs i)) (by simp[qo,qn,Lg,hi])
  rw[show(⟨g,0+i,none⟩:Addr)=Addr.add ⟨g,0,none⟩ i by by_cases h:i=0<;>simp[Addr.add,h]];exact this
theorem qe7 (h:List Int)(hh:Words 64 8 h)(w:World):
  Calls Tryz.prog 190 #[.agg (qh .u64 h)] w fun e w'=> ∃v,e= .returned v∧w'.ownsRow w.heap.size 5 1 v 64 ((qI 8 h 8).map qo)∧Below w.heap.size w w':=by
 obtain⟨i0,hi,hz0,hz1,hz2⟩:=info_parts Qn;obtain⟨b0,hb0⟩:=Ex w.heap.size;go_enter Tryz.func190,Tryz.ntmps190
 obtain⟨W0,hW0⟩:=Ex (w.alloc (.cells (qh .u64 h) 278));have hs0:W0.heap.size=w.heap.size+1:=by rw[←hW0];simp
 have hbl0:Below w.heap.size w W0:=by rw[←hW0];exact(Below.refl w.heap.size w).alloc Nl _
 have hr0:W0.heap[b0]? =some (.cells (qh .u64 h) 278 (0,0)):=by rw[←hW0];exact qc _ _ hb0.symm
 obtain⟨w1,hr,hown1,hgrow1⟩:=run_make_own (P:=Tryz.prog) W0 w.heap.size 24 5 i0 (.int .u8 0) 1 Tryz.underlying24 hi hz0 hz1 .i64 .i64 64 (by rw[hz2];omega) (by unfold maxLen;omega) (by omega);have hr':(Instr.makeSlice 24 (.int .i64 0) (.int .i64 64)).run Tryz.prog W0= .ok (.slice (some ⟨W0.heap.size,0,none⟩) 0 64) w1:=hr;have hrow:w1.heap[b0]? =some (.cells (qh .u64 h) 278 (0,0)):=(hgrow1.block b0 (by omega) (by simp)).trans hr0;have hb1:Below w.heap.size w w1:=hbl0.grown hgrow1 (by omega) (fun k e=>by cases e);obtain⟨bg,hbg⟩:=Ex W0.heap.size;have hgb:b0<bg:=by omega
 rw[hbg]at hr' hown1;have HR:=hid hrow;have HB:=hid hb1;have HO:=hid hown1;have HH:=hid hh;clear hr hgrow1 hbl0 hr0 hb1 hown1 hs0 hbg;rw[hb0]at HO HB⊢;go_wp2_with ((with_reducible show wpList _ _ _ (Oper.mk _ (Op.load _ _) _ _ _ _::_) _ _);refine wpList_load_row rfl 278 _ rfl b0 rfl _ _ _ _ HR.out Tryz.underlying278 rfl (by rw[qe,HH.out.1];kernel_rfl) ?_)
 go_loopw [3,8] (fun s i wr=> ∃(k:Nat) (v:Value),s=v∧i= .int .i64 k∧k≤8∧wr.ownsRow b0 5 1 v (8*k) ((qI 8 h k).map qo)∧Below b0 w wr) (fun _ i _=>8 - (intOf i).toNat)
 case atStart=>exact⟨0,_,rfl,rfl,Nat.zero_le _,HO.out,HB.out⟩
 case round=>
  obtain⟨k,v,rfl,rfl,hk,hown,hb⟩:=hrel;have hsr:=hb.size;by_cases hlt:k<8
  ·have ha:=qy (k:= .u64) HH.out hlt;obtain⟨x,hx⟩: ∃x:Nat,(x:Int)=wd h k:=⟨(wd h k).toNat,by have:=(ym HH.out hlt);omega⟩;rw[←hx]at ha;have hxb:(x:Int)≤18446744073709551615:=by have:=(ym HH.out hlt);omega
   have hnat:(wd h k).toNat=x:=by omega
   have e1:(qI 8 h (k+1)).map qo=(qI 8 h k).map qo++(qV x 8).map qo:=by rw[qI,List.map_append,hnat]
   have E1:=hid e1;have OW:=hid hown;have BW:=hid hb;clear e1 hown hb hx hnat;go_wp2_with fail
   refine(qef x hxb _).mono ?_;rintro e2 w2 ⟨v2,rfl,hown2,hb2⟩
   have hown':=qg OW.out (W':=w2) (fun g _ hg=>hb2.block g hg);have hB2:Below b0 w w2:=BW.out.trans (hb2.mono (by omega));have hs2:=hb2.size;obtain⟨g2,c2,rfl,hg2,hc2⟩:=qfn hown2 (by decide);clear hb2;go_wp2_with (at_builtin;refine wpList_append_own _ rfl _ _ 24 rfl b0 5 i0 (.int .u8 0) 1 1 Tryz.underlying24 hi hz0 hz1 hz2 rfl (by decide) _ _ _ rfl hown' ⟨g2,0,none⟩ 8 c2 ((qV x 8).map qo) rfl (by rw[List.length_map,qU]) hc2 qdQ (by unfold maxLen;omega) (by omega) (by omega) ?_;intro v' w3 hown3 hgrow _;have hb3:Below b0 w w3:=hB2.grown hgrow (by omega) (fun k e=>(hown'.lt k e).1))
   rw[←E1.out,←Nat.mul_succ]at hown3;exact⟨⟨k+1,v',rfl,rfl,by omega,hown3,hb3⟩,by simp[intOf];omega⟩
  ·obtain rfl:k=8:=by omega
   go_wp2
   go_ret
   exact⟨_,rfl,hown,hb⟩
attribute [local go_sem] Oper.semAt_some YJ
theorem qe4 (W:World)(a0 a1 a2 a3:Value)(T:TypeId): ∀j u,[a0,a1,a2,a3][j]? =some u→(W.alloc (.cells #[a0,a1,a2,a3] T)).cell? (Addr.add ⟨W.heap.size,0,none⟩ j)=some u:=by
 intro j u hj;have h:=qa (Wn W (.cells #[a0,a1,a2,a3] T)) j;rw[show Addr.add ⟨W.heap.size,0,none⟩ j=⟨W.heap.size,j,none⟩ by first|(simp[Addr.add];done)|(simp[Addr.add];omega),h];simpa using hj
theorem qe8 (h:List Int)(hh:Words 32 8 h)(w:World):
  Calls Tryz.prog 193 #[.agg (qh .u32 h)] w fun e w'=> ∃v,e= .returned v∧w'.ownsRow w.heap.size 5 1 v 32 ((qI 4 h 8).map qo)∧Below w.heap.size w w':=by
 obtain⟨i0,hi,hz0,hz1,hz2⟩:=info_parts Qn;obtain⟨b0,hb0⟩:=Ex w.heap.size;go_enter Tryz.func193,Tryz.ntmps193
 obtain⟨W0,hW0⟩:=Ex (w.alloc (.cells (qh .u32 h) 288));have hs0:W0.heap.size=w.heap.size+1:=by rw[←hW0];simp
 have hbl0:Below w.heap.size w W0:=by rw[←hW0];exact(Below.refl w.heap.size w).alloc Nl _
 have hr0:W0.heap[b0]? =some (.cells (qh .u32 h) 288 (0,0)):=by rw[←hW0];exact qc _ _ hb0.symm
 obtain⟨w1,hr,hown1,hgrow1⟩:=run_make_own (P:=Tryz.prog) W0 w.heap.size 24 5 i0 (.int .u8 0) 1 Tryz.underlying24 hi hz0 hz1 .i64 .i64 32 (by rw[hz2];omega) (by unfold maxLen;omega) (by omega);have hr':(Instr.makeSlice 24 (.int .i64 0) (.int .i64 32)).run Tryz.prog W0= .ok (.slice (some ⟨W0.heap.size,0,none⟩) 0 32) w1:=hr;have hrow:w1.heap[b0]? =some (.cells (qh .u32 h) 288 (0,0)):=(hgrow1.block b0 (by omega) (by simp)).trans hr0;have hb1:Below w.heap.size w w1:=hbl0.grown hgrow1 (by omega) (fun k e=>by cases e);obtain⟨bg,hbg⟩:=Ex W0.heap.size;have hgb:b0<bg:=by omega
 rw[hbg]at hr' hown1;have HR:=hid hrow;have HB:=hid hb1;have HO:=hid hown1;have HH:=hid hh;clear hr hgrow1 hbl0 hr0 hb1 hown1 hs0 hbg;rw[hb0]at HO HB⊢;go_wp2_with ((with_reducible show wpList _ _ _ (Oper.mk _ (Op.load _ _) _ _ _ _::_) _ _);refine wpList_load_row rfl 288 _ rfl b0 rfl _ _ _ _ HR.out Tryz.underlying288 rfl (by rw[qe,HH.out.1];kernel_rfl) ?_)
 go_loopw [3,8] (fun s i wr=> ∃(k:Nat) (v:Value),s=v∧i= .int .i64 k∧k≤8∧wr.ownsRow b0 5 1 v (4*k) ((qI 4 h k).map qo)∧Below b0 w wr) (fun _ i _=>8 - (intOf i).toNat)
 case atStart=>exact⟨0,_,rfl,rfl,Nat.zero_le _,HO.out,HB.out⟩
 case round=>
  obtain⟨k,v,rfl,rfl,hk,hown,hb⟩:=hrel;have hsr:=hb.size;by_cases hlt:k<8
  ·have ha:=qy (k:= .u32) HH.out hlt;obtain⟨x,hx⟩: ∃x:Nat,(x:Int)=wd h k:=⟨(wd h k).toNat,by have:=(ym HH.out hlt);omega⟩;rw[←hx]at ha;have hxb:(x:Int)≤4294967295:=by have:=(ym HH.out hlt);omega
   have hnat:(wd h k).toNat=x:=by omega
   have q0:(x:Int)%256=byt x 0:=by have:=zK x 0;simpa using this
   have q1:(x:Int)/256%256=byt x 1:=zK x 1;have q2:(x:Int)/65536%256=byt x 2:=zK x 2;have q3:(x:Int)/16777216=byt x 3:=by
    have h3:(x:Int)/16777216%256=byt x 3:=zK x 3;rw[←h3];omega
   have e1:(qI 4 h (k+1)).map qo=(qI 4 h k).map qo++[.int .u8 (byt x 0),.int .u8 (byt x 1),.int .u8 (byt x 2),.int .u8 (byt x 3)]:=by rw[qI,List.map_append,hnat];rfl
   have E1:=hid e1;clear e1 hx hnat;go_wp2_with (at_builtin;refine wpList_append_own _ rfl _ _ 24 rfl b0 5 i0 (.int .u8 0) 1 1 Tryz.underlying24 hi hz0 hz1 hz2 rfl (by decide) _ _ _ rfl (hown.alloc _) ⟨wr.heap.size,0,none⟩ 4 4 [.int .u8 (byt x 0),.int .u8 (byt x 1),.int .u8 (byt x 2),.int .u8 (byt x 3)] rfl rfl (qe4 _ _ _ _ _ _) (by simp[Value.oneCell']) (by unfold maxLen;omega) (by omega) (by simp;omega) ?_;intro v' w2 hown' hgrow _;have hb3:Below b0 w w2:=(hb.alloc (by omega) _).grown hgrow (by simp;omega) (fun k e=>(hown.lt k e).1))
   rw[←E1.out,←Nat.mul_succ]at hown';exact⟨⟨k+1,v',rfl,rfl,by omega,hown',hb3⟩,by simp[intOf];omega⟩
  ·obtain rfl:k=8:=by omega
   go_wp2
   go_ret
   exact⟨_,rfl,hown,hb⟩
end Go.Proofs.YtahenngmaoellaaGreat
namespace Go.Proofs.YtahenngmaoellaaGreat
open Go.ChangeShapes Go.WideShapes Go.ChangeAt Go.RowKit Go.Joins Go.Shelf Go.Maps
open Go.Lib (hid)
attribute [local go_sem] Oper.semAt_some
def SrcIs (w:World)(x:Value)(m:Nat)(news:List Value):Prop:=
 news.length=m∧(∀u∈news,u.oneCell'=true)∧((x= .slice none 0 0∧m=0)∨ ∃ad c,x= .slice (some ad) m c∧ ∀j u,news[j]? =some u→w.cell? (ad.add j)=some u)
theorem SrcIs.below {w w':World}{x:Value}{m:Nat}{news:List Value}(h:SrcIs w x m news)(hb:Below w.heap.size w w'):SrcIs w' x m news:=by
 refine⟨h.1,h.2.1,?_⟩;rcases h.2.2 with h2|⟨ad,c,e,h2⟩
 ·exact .inl h2
 ·refine .inr ⟨ad,c,e,fun j u hj=>?_⟩;have:=h2 j u hj
  rw[hb.cell (World.block_lt_of_cell? w _ this)];exact this
theorem qaV {P:Program}{w W:World}{B:Nat}(hB:B=W.heap.size)(hb:Below B W w)(t ty e:TypeId)(i:TypeInfo)(z:Value)(bytes:Nat)(ht:P.underlying t=some (.slice e))(hi:P.info? e=some i)(hz:i.zero=some z)
  (hsize:i.size=1) (hby:i.bytes=bytes) (hzs:z.cells.size=1) (v:Value) (n:Nat) (xs:List Value) (hown:w.ownsRow B e 1 v n xs)
  (x:Value) (m:Nat) (news:List Value) (hsrc:SrcIs w x m news) (h63:n+m≤maxLen) (hbytes:(n+m)*bytes≤140737488355328):
  ∃v' w',(Builtin.append_ #[t,t] ty #[v,x]).run P w= .ok v' w'∧w'.ownsRow B e 1 v' (n+m) (xs++news)∧Below B W w':=by
 subst hB;obtain⟨h1,h2,h3⟩:=hsrc;rcases h3 with⟨rfl,rfl⟩|⟨ad,c,rfl,h3⟩
 ·obtain rfl:news=[]:=List.eq_nil_of_length_eq_zero h1;exact⟨v,w,run_append_owned_none w W.heap.size t ty e i 1 ht hi v n xs hown,by simpa using hown,hb⟩
 ·obtain⟨v',w',hr,hown',hgrow, -⟩:=run_append_own (P:=P) w W.heap.size t ty e i z 1 bytes ht hi hz hsize hby hzs (by omega) v n xs hown ad m c news (by omega) h3 h2 h63 hbytes hb.size;exact⟨v',w',hr,hown',hb.grown hgrow hb.size (fun k e=>(hown.lt k e).1)⟩
theorem qax {P:Program}{w:World}{ops:Array Oper}{o:Oper}{a:Act}{K:Act→World→Prop}{Q:Exit→Act→World→Prop}{E:Prop}(hgd:o.guard=none)(s x:Operand)(t:TypeId)
  (ho:o.op= .call { callee:= .builtin .append,args:= #[s,x],argTypes:= #[t,t] }) (W:World) (B:Nat) (hB:B=W.heap.size) (hb:Below B W w)
  (e:TypeId) (i:TypeInfo) (z:Value) (bytes:Nat) (ht:P.underlying t=some (.slice e)) (hi:P.info? e=some i) (hz:i.zero=some z)
  (hsize:i.size=1) (hby:i.bytes=bytes) (hzs:z.cells.size=1) (v:Value) (n:Nat) (xs:List Value) (hs:a.eval s=v) (hown:w.ownsRow B e 1 v n xs)
  (u:Value) (m:Nat) (news:List Value) (hx:a.eval x=u) (hsrc:SrcIs w u m news) (h63:n+m≤maxLen) (hbytes:(n+m)*bytes≤140737488355328)
  (h: ∀v' w',w'.ownsRow B e 1 v' (n+m) (xs++news)→Below B W w'→K (a.put o.dst v') w'):
  if Region.wanted o (yielded ops a.tmps)=true then Oper.wp P o a w K Q else E:=by
 have hw:Region.wanted o (yielded ops a.tmps)=true:=by simp[Region.wanted,hgd]
 rw[if_pos hw];obtain⟨v',w',hr,h2,h3⟩:=qaV (P:=P) hB hb t o.type e i z bytes ht hi hz hsize hby hzs v n xs hown u m news hsrc h63 hbytes;unfold Oper.wp execOp;simp only[ho,resolve,invoke,builtin,Sem.run_bind,Sem.run_pure,Result.andThen_ok,List.map_toArray,List.map_cons,List.map_nil,hs,hx,hr];exact h v' w' h2 h3
theorem qej {w:World}{B n:Nat}{e:TypeId}{v:Value}{xs:List Value}(h:w.ownsRow B e 1 v n xs)(h1: ∀u∈xs,u.oneCell'=true):SrcIs w v n xs:=by
 refine⟨by have:=h.1;omega,h1,?_⟩;rcases h.2 with⟨rfl,rfl⟩|⟨g,cap,cur,rfl, -⟩
 ·exact .inl ⟨rfl,rfl⟩
 ·exact .inr ⟨⟨g,0,none⟩,cap,rfl,h.cells (g:=g) rfl⟩
theorem qN {P:Program}{w:World}{ops:Array Oper}{o:Oper}{l:List Oper}{a:Act}{Q:Exit→Act→World→Prop}(hgd:o.guard=none)(s x:Operand)(t:TypeId)
  (ho:o.op= .call { callee:= .builtin .append,args:= #[s,x],argTypes:= #[t,t] }) (W:World) (B:Nat) (hB:B=W.heap.size) (hb:Below B W w)
  (e:TypeId) (i:TypeInfo) (z:Value) (bytes:Nat) (ht:P.underlying t=some (.slice e)) (hi:P.info? e=some i) (hz:i.zero=some z)
  (hsize:i.size=1) (hby:i.bytes=bytes) (hzs:z.cells.size=1) (v:Value) (n:Nat) (xs:List Value) (hs:a.eval s=v) (hown:w.ownsRow B e 1 v n xs)
  (u:Value) (m:Nat) (news:List Value) (hx:a.eval x=u) (hsrc:SrcIs w u m news) (h63:n+m≤maxLen) (hbytes:(n+m)*bytes≤140737488355328)
  (h: ∀v' w',w'.ownsRow B e 1 v' (n+m) (xs++news)→Below B W w'→wpList P ops Q l (a.put o.dst v') w'):wpList P ops Q (o::l) a w:=by
 have hw:Region.wanted o (yielded ops a.tmps)=true:=by simp[Region.wanted,hgd]
 unfold wpList;rw[if_pos hw];refine .inl ?_;have H:=qax (ops:=ops) (K:=wpList P ops Q l) (Q:=Q) (E:=True) hgd s x t ho W B hB hb e i z bytes ht hi hz hsize hby hzs v n xs hs hown u m news hx hsrc h63 hbytes h;rw[if_pos hw]at H;exact H
def Qi (zs:List Int):Nat→Nat
 | 0=>0
 | k+1=>if qn zs k=0 then Qi zs k else k+1
theorem ZE (zs:List Int): ∀k,Qi zs k≤k
 | 0=>Nat.le_refl _
 | k+1=>by
  unfold Qi;split
  ·exact Nat.le_succ_of_le (ZE zs k)
  ·exact Nat.le_refl _
theorem qaP (zs:List Int): ∀k j,Qi zs k≤j→j<k→qn zs j=0
 | 0,j,_,h=>by omega
 | k+1,j,h1,h2=>by
  unfold Qi at h1;split at h1
  ·rename_i h;by_cases e:j=k
   ·rw[e];exact h
   ·exact qaP zs k j h1 (by omega)
  ·omega
theorem qc8 {w:World}{b off n cap:Nat}{zs:List Int}(h:Qs w b off zs)(hn:n≤zs.length):SrcIs w (.slice (some ⟨b,off,none⟩) n cap) n ((zs.take n).map qo):=by
 refine⟨by simp;omega,?_,.inr ⟨⟨b,off,none⟩,cap,rfl,?_⟩⟩
 ·intro u hu;obtain⟨z, -,rfl⟩:=List.mem_map.1 hu;rfl
 ·intro j u hj;obtain⟨hj1,rfl⟩:=List.getElem?_eq_some_iff.1 hj;simp at hj1
  rw[Go.WideShapes.add_plain,h.2 j (by omega)];simp[qo,qn,Lg,show j<zs.length by omega]
theorem qaO (zs:List Int)(b off cap:Nat)(w:World)(hB:Qs w b off zs)(hcap:zs.length≤cap)(hm:zs.length≤4294967296):
  Calls Tryz.prog 166 #[.slice (some ⟨b,off,none⟩) zs.length cap] w fun e w'=> ∃v',e= .returned v'∧w'.ownsRow w.heap.size 5 1 v' (Qi zs zs.length) ((zs.take (Qi zs zs.length)).map qo)∧Below w.heap.size w w':=by
 obtain⟨i0,hi,hz0,hz1,hz2⟩:=info_parts Qn;obtain⟨h1,h2⟩:=id hB;have HC:=hid h2;have HB:=hid hB;clear h2 hB;go_enter Tryz.func166,Tryz.ntmps166
 go_wp2_with fail
 go_loopw [3] (fun i wr=> ∃k:Nat,i= .int .i64 k∧wr=w∧k≤zs.length∧Qi zs k=Qi zs zs.length) (fun i _=>(intOf i).toNat)
 case atStart=>exact⟨zs.length,rfl,rfl,Nat.le_refl _,rfl⟩
 case round=>
  obtain⟨k,rfl,rfl,hk,he0⟩:=hrel;have HE:=hid he0;clear he0
  cases k with
  | zero=>
   have k5:(0:Int)≤cap:=by omega
   have hN:=ZE zs zs.length;have E0:=hid (show Qi zs zs.length=0 from HE.out.symm);go_wp2_with (at_builtin;refine qN rfl _ _ _ rfl wr wr.heap.size rfl (by repeat(first|exact Below.refl _ _|refine Below.drew ?_)) 5 i0 (.int .u8 0) 1 Tryz.underlying24 hi hz0 hz1 hz2 rfl _ 0 [] rfl (Wo _ _ _ _) _ 0 _ rfl (qc8 (n:=0) HB.out (by omega)) (by unfold maxLen;omega) (by omega) ?_;intro v' w2 hown' hb3)
   go_ret
   refine⟨_,rfl,?_,hb3⟩;rw[E0.out];exact hown'
  | succ j=>
   have hc:=HC.out j (by omega);have k1:((j+1:Nat):Int) - 1=(j:Nat):=by omega
   have k2:0≤(j:Int)∧(j:Int)<4294967296:=by omega
   obtain⟨k3,k4⟩:=k2;have k5:(j:Int)+1≤cap:=by omega
   by_cases hj:qn zs j=0
   ·rw[hj]at hc;go_wp2
    exact⟨⟨j,rfl,by trivial,by omega,by rw[←HE.out];simp[Qi,hj]⟩,by simp[intOf]⟩
   ·have E0:=hid (show j+1=Qi zs zs.length by rw[←HE.out];simp[Qi,hj]);have q:=beq_eq_false_iff_ne.2 hj;have q2:(qn zs j==0)=false:=q;generalize qn zs j=z at hc hj q q2;clear q hj;go_wp2_with (at_builtin;refine qN rfl _ _ _ rfl wr wr.heap.size rfl (by repeat(first|exact Below.refl _ _|refine Below.drew ?_)) 5 i0 (.int .u8 0) 1 Tryz.underlying24 hi hz0 hz1 hz2 rfl _ 0 [] rfl (Wo _ _ _ _) _ (j+1) _ rfl (qc8 (n:=j+1) HB.out (by omega)) (by unfold maxLen;omega) (by omega) ?_;intro v' w2 hown' hb3)
    go_ret
    refine⟨_,rfl,?_,hb3⟩;rw[←E0.out];simpa using hown'
theorem jG (zs:List Int)(b off cap:Nat)(w:World)(hB:Qs w b off zs)(hcap:zs.length≤cap)(hm:zs.length≤4294967296):
  Calls Tryz.prog 195 #[.slice (some ⟨b,off,none⟩) zs.length cap] w fun e w'=> ∃v',e= .returned v'∧w'.ownsRow w.heap.size 5 1 v' (Qi zs zs.length) ((zs.take (Qi zs zs.length)).map qo)∧Below w.heap.size w w':=by
 obtain⟨i0,hi,hz0,hz1,hz2⟩:=info_parts Qn;obtain⟨h1,h2⟩:=id hB;have HC:=hid h2;have HB:=hid hB;obtain⟨N,hN⟩:=Ex (Qi zs zs.length);have hNl:=ZE zs zs.length;rw[hN]at hNl⊢;have HN:=hid hN;clear h2 hB hN;go_enter Tryz.func195,Tryz.ntmps195
 go_wp2_with fail
 go_loopw [3] (fun i wr=> ∃k:Nat,i= .int .i64 k∧w=wr∧k≤zs.length∧Qi zs k=N) (fun i _=>(intOf i).toNat)
 case atStart=>exact⟨zs.length,rfl,rfl,Nat.le_refl _,HN.out⟩
 case round=>
  obtain⟨k,rfl,rfl,hk,he0⟩:=hrel;have HE:=hid he0;clear he0;by_cases hst: ∃j,k=j+1∧qn zs j=0
  ·obtain⟨j,rfl,hj⟩:=hst;have hc:=HC.out j (by omega);have k1:((j+1:Nat):Int) - 1=(j:Nat):=by omega
   have k3:0≤(j:Int):=by omega
   have k4:(j:Int)<4294967296:=by omega
   rw[hj]at hc;go_wp2
   exact⟨⟨j,rfl,by trivial,by omega,by rw[←HE.out];simp[Qi,hj]⟩,by simp[intOf]⟩
  ·have ek:k=N:=by
    rw[←HE.out]
    cases k with
    | zero=>rfl
    | succ j=>simp only[Qi];rw[if_neg (fun h=>hst ⟨j,rfl,h⟩)]
   have hgo:k=0∨ ∃j z,k=j+1∧w.cell? ⟨b,off+j,none⟩=some (.int .u8 z)∧(z==0)=false:=by
    cases k with
    | zero=>exact .inl rfl
    | succ j=>exact .inr ⟨j,qn zs j,rfl,HC.out j (by omega),beq_eq_false_iff_ne.2 (fun h=>hst ⟨j,rfl,h⟩)⟩
   clear hst;subst ek;rcases hgo with hk0|⟨j,z,hk0,hc,hq⟩
   case inl=>
    subst hk0;go_wp2_with fail
    go_loopw [4,5] (fun o i W2=> ∃(m:Nat) (v:Value),o=v∧i= .int .i64 m∧m≤0∧W2.ownsRow w.heap.size 5 1 v m ((zs.take m).map qo)∧Below w.heap.size w W2) (fun _ i _=>0 - (intOf i).toNat)
    case atStart=>exact⟨0,_,rfl,rfl,by omega,Wo _ _ _ _,Below.refl _ _⟩
    case round=>
     obtain⟨i,v,rfl,rfl,hi2,hown,hb⟩:=hrel;have hsr:=hb.size;by_cases hlt:i<0
     ·exact absurd hlt (by omega)
     ·obtain rfl:i=0:=by omega
      go_wp2
      go_ret
      exact⟨_,rfl,hown,hb⟩
   case inr=>
    have HK:=hid hk0;have k1:((j+1:Nat):Int) - 1=(j:Nat):=by omega
    have k3:0≤(j:Int):=by omega
    have k4:(j:Int)<4294967296:=by omega
    subst hk0;go_wp2_with fail
    go_loopw [4,5] (fun o i W2=> ∃(m:Nat) (v:Value),o=v∧i= .int .i64 m∧m≤j+1∧W2.ownsRow w.heap.size 5 1 v m ((zs.take m).map qo)∧Below w.heap.size w W2) (fun _ i _=>j+1 - (intOf i).toNat)
    case atStart=>exact⟨0,_,rfl,rfl,by omega,Wo _ _ _ _,Below.refl _ _⟩
    case round=>
     clear hc hq k1 k3 k4;obtain⟨i,v,rfl,rfl,hi2,hown,hb⟩:=hrel;have hsr:=hb.size;by_cases hlt:i<j+1
     ·have hci:=(hb.cell (p:=⟨b,off+i,none⟩) h1).trans (HC.out i (by omega));have e1:=hid (show(zs.take (i+1)).map qo=(zs.take i).map qo++[.int .u8 (qn zs i)] by
       rw[List.take_add_one,List.map_append];simp[qn,Lg,show i<zs.length by omega,qo])
      generalize qn zs i=y at hci e1;go_wp2_with (at_builtin;refine wpList_append_own _ rfl _ _ 24 rfl w.heap.size 5 i0 (.int .u8 0) 1 1 Tryz.underlying24 hi hz0 hz1 hz2 rfl (by decide) _ _ _ rfl (hown.alloc _) ⟨wr.heap.size,0,none⟩ 1 1 [.int .u8 y] rfl rfl (cell_one_new _ _ _) (by simp[Value.oneCell']) (by unfold maxLen;omega) (by omega) (by simp;omega) ?_;intro v' w2 hown' hgrow _;have hb3:Below w.heap.size w w2:=(hb.alloc hsr _).grown hgrow (by simp;omega) (fun k e=>(hown.lt k e).1))
      rw[←e1.out]at hown';exact⟨⟨i+1,v',rfl,rfl,by omega,hown',hb3⟩,by simp[intOf];omega⟩
     ·obtain rfl:i=j+1:=by omega
      go_wp2
      go_ret
      exact⟨_,rfl,hown,hb⟩
theorem qbW (big:Bool)(a:Option Addr)(n cap:Nat)(w:World):
  Calls Tryz.prog 134 #[.int .i64 (kB big),.slice a n cap] w fun e w'=>(∃x,e= .returned (.int .i64 x)∧(x=0↔n=mB big))∧w'=w:=by
 have hs:=ZK big
 cases big
 case' false=>
  change ∀w:World,Calls Tryz.prog 133 #[.int .i64 2] w fun e w'=>e= .returned (.tuple #[.int .i64 32,.int .i64 32,.int .i64 8])∧w'=w at hs
  change Calls _ _ #[.int .i64 2,_] _ fun e w'=>(∃x,e= .returned (.int .i64 x)∧(x=0↔n=32))∧_
  obtain⟨N,hN⟩: ∃N:Nat,N=32:=⟨_,rfl⟩
 case' true=>
  change ∀w:World,Calls Tryz.prog 133 #[.int .i64 1] w fun e w'=>e= .returned (.tuple #[.int .i64 64,.int .i64 64,.int .i64 16])∧w'=w at hs
  change Calls _ _ #[.int .i64 1,_] _ fun e w'=>(∃x,e= .returned (.int .i64 x)∧(x=0↔n=64))∧_
  obtain⟨N,hN⟩: ∃N:Nat,N=64:=⟨_,rfl⟩
 all_goals
  by_cases h1:n<N
  case' neg=>by_cases h2:N<n
  all_goals
   subst hN;go_enter Tryz.func134,Tryz.ntmps134
   go_wp2_with fail
   refine(hs _).mono ?_;rintro e w1 ⟨rfl,rfl⟩;go_wp2_with fail
   go_ret
   exact⟨⟨_,rfl,by omega⟩,rfl⟩
theorem qbQ (big:Bool)(a:Option Addr)(n cap:Nat)(w:World):
  Calls Tryz.prog 178 #[.int .i64 (kB big),.slice a n cap] w fun e w'=>(∃x,e= .returned (.int .i64 x)∧(x=0↔n=mB big))∧w'=w:=by
 have hs:=Ye big;have hz:=jT big
 cases big
 case' false=>
  change ∀w:World,Calls Tryz.prog 173 #[.int .i64 2] w fun e w'=>e= .returned (.int .i64 32)∧w'=w at hs
  change ∀w:World,Calls Tryz.prog 170 #[.int .i64 2] w fun e w'=>e= .returned (.int .i64 32)∧w'=w at hz
  change Calls _ _ #[.int .i64 2,_] _ fun e w'=>(∃x,e= .returned (.int .i64 x)∧(x=0↔n=32))∧_
  obtain⟨N,hN⟩: ∃N:Nat,N=32:=⟨_,rfl⟩
 case' true=>
  change ∀w:World,Calls Tryz.prog 173 #[.int .i64 1] w fun e w'=>e= .returned (.int .i64 64)∧w'=w at hs
  change ∀w:World,Calls Tryz.prog 170 #[.int .i64 1] w fun e w'=>e= .returned (.int .i64 64)∧w'=w at hz
  change Calls _ _ #[.int .i64 1,_] _ fun e w'=>(∃x,e= .returned (.int .i64 x)∧(x=0↔n=64))∧_
  obtain⟨N,hN⟩: ∃N:Nat,N=64:=⟨_,rfl⟩
 all_goals
  by_cases h1:n<N
  case' neg=>by_cases h2:N<n
  all_goals
   subst hN;go_enter Tryz.func178,Tryz.ntmps178
   go_wp2_with fail
   refine(hs _).mono ?_;rintro e w1 ⟨rfl,rfl⟩;go_wp2_with fail
   refine(hz _).mono ?_;rintro e w1 ⟨rfl,rfl⟩;go_wp2_with fail
   try(refine(hz _).mono ?_;rintro e w1 ⟨rfl,rfl⟩;go_wp2_with fail)
   go_ret
   exact⟨⟨_,rfl,by omega⟩,rfl⟩
def atB (big:Bool):Nat→Nat
 | 1=>0|2=>1|3=>2|4=>3|5=>4|6=>8|7=>12
 | 8=>cond big 16 14
 | _=>cond big 17 15
def szB (big:Bool):Nat→Nat
 | 5=>4
 | 6=>cond big 8 6
 | 7=>cond big 4 2
 | _=>1
theorem jo (big:Bool)(f:Nat)(hf:1≤f∧f≤9)(w:World):
  Calls Tryz.prog 171 #[.int .i64 (kB big),.int .i64 f] w fun e w'=>e= .returned (.tuple #[.int .i64 (atB big f:Nat),.int .i64 (szB big f:Nat)])∧w'=w:=by
 have h:f=1∨f=2∨f=3∨f=4∨f=5∨f=6∨f=7∨f=8∨f=9:=by omega
 clear hf;rcases h with rfl|rfl|rfl|rfl|rfl|rfl|rfl|rfl|rfl<;>cases big<;>
 ·simp only[kB,atB,szB,cond];go_enter Tryz.func171,Tryz.ntmps171
  go_wp2
  exact Bp (results_tmp2 (fn:=Tryz.f171) (t:=4) (u:=5) rfl _ _ _) rfl ⟨rfl,rfl⟩
def qiG (big:Bool)(w:World)(b:Nat):Prop:=b<w.heap.size∧ ∀f,1≤f→f≤9→w.cell? ⟨b,(f - 1)*5,none⟩=some (.int .i64 f)∧w.cell? ⟨b,(f - 1)*5+1,none⟩=some (.int .i64 (atB big f:Nat))∧w.cell? ⟨b,(f - 1)*5+2,none⟩=some (.int .i64 (szB big f:Nat))
theorem Jm:(Tryz.prog.info? 225).map (fun i=>(i.zero,i.size,i.bytes))=some (some (.agg #[.int .i64 0,.int .i64 0,.int .i64 0,.string ⟨#[]⟩,.int .i64 0]),5,48):=by kernel_rfl
theorem qfk (big:Bool)(w:World):
  Calls Tryz.prog 135 #[.int .i64 (kB big)] w fun e w'=>(∃b,e= .returned (.slice (some ⟨b,0,none⟩) 9 9)∧w.heap.size≤b∧qiG big w' b)∧Below w.heap.size w w':=by
 cases hie:Tryz.prog.info? 225 with
 | none=>have:=Jm;rw[hie]at this;cases this
 | some ie=>
 have hi:=Jm;rw[hie]at hi;simp only[Option.map_some,Option.some.injEq,Prod.mk.injEq]at hi;obtain⟨hz,hsz, -⟩:=hi
 cases big<;>
 ·simp only[kB,cond];go_enter Tryz.func135,Tryz.ntmps135
  go_wp2_with ((with_reducible show wpList _ _ _ (Oper.mk _ (Op.buildSlice _ _ _) _ _ _ _::_) _ _);refine wpList_buildSlice rfl 221 225 9 _ rfl rowCells ie _ Tryz.underlying221 hie hz (by rw[hsz];decide) (by rw[hsz];decide) (by rw[hsz];rfl) ?_)
  go_ret
  refine⟨⟨_,rfl,Nat.le_refl _,by simp,fun f h1 h2=>?_⟩,Br.alloc Nl _⟩;have h:f=1∨f=2∨f=3∨f=4∨f=5∨f=6∨f=7∨f=8∨f=9:=by omega
  rcases h with rfl|rfl|rfl|rfl|rfl|rfl|rfl|rfl|rfl<;>exact⟨(qa (Wn w _) _).trans rfl,(qa (Wn w _) _).trans rfl,(qa (Wn w _) _).trans rfl⟩
end Go.Proofs.YtahenngmaoellaaGreat
