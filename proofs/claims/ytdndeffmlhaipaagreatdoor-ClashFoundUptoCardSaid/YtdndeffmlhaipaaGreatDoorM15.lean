/- A block's words, by the program and by the reference: the big kind. No condition. -/
import Derived.Test.YtdndeffmlhaipaaGreatDoorM05
import Derived.Test.YtdndeffmlhaipaaGreatDoorM14
import Derived.Laws.MakeOwn
set_option linter.all false
set_option maxRecDepth 100000
set_option maxHeartbeats 8000000
namespace Go.Proofs.YtdndeffmlhaipaaGreatDoor
open Go.ChangeShapes Go.WideShapes Go.ChangeAt Go.RowKit Go.Joins Go.Shelf Go.Maps
open Go.Lib (hid)
attribute [local go_sem] Oper.semAt_some
def Qv (n c:Nat)(zs:List Int):List Int:=(List.range c).map fun i=>yj zs (n*i) n
def yH (n c:Nat)(zs:List Int):Nat→List Int
 | 0=>List.replicate c 0
 | j+1=>(yH n c zs j).set j (yj zs (n*j) n)
theorem ye (n c:Nat)(zs:List Int): ∀j,(yH n c zs j).length=c
 | 0=>by simp[yH]
 | j+1=>by simp[yH,ye n c zs j]
theorem qbh (n c:Nat)(zs:List Int): ∀j i,i<j→i<c→(yH n c zs j)[i]? =some (yj zs (n*i) n)
 | j+1,i,h,hc=>by
  simp only[yH];by_cases e:i=j
  ·subst e;rw[List.getElem?_set_self (by rw[ye];exact hc)]
  ·rw[List.getElem?_set_ne (Ne.symm e)];exact qbh n c zs j i (by omega) hc
theorem qai (n c:Nat)(zs:List Int):yH n c zs c=Qv n c zs:=by
 apply List.ext_getElem?
 intro i;by_cases h:i<c
 ·rw[qbh n c zs c i h h];simp[Qv,h]
 ·rw[List.getElem?_eq_none (by rw[ye];omega),List.getElem?_eq_none (by simp[Qv];omega)]
theorem yP (n c:Nat){zs:List Int}(hz: ∀z∈zs,0≤z∧z≤255)(hl:zs.length=n*c):Words (8*n) c (Qv n c zs):=by
 refine⟨by simp[Qv],fun x hx=>?_⟩;simp only[Qv,List.mem_map,List.mem_range]at hx;obtain⟨i,hi,rfl⟩:=hx;have:n*i+n≤n*c:=by
  rw[←Nat.mul_succ];exact Nat.mul_le_mul_left n hi
 exact qY hz n (by omega)
theorem Holds8.slice {w:World}{v:Value}{zs:List Int}(h:Holds8 w v zs): ∃a cap,v= .slice a zs.length cap:=by
 obtain⟨a,cap,e, -⟩:=h;exact⟨a,cap,e⟩
theorem Jh (zs:List Int)(v:Value)(at_:Nat)(w:World)(h:Holds8 w v zs)(hz: ∀z∈zs,0≤z∧z≤255)(hl:at_+8≤zs.length)(hm:zs.length≤4294967296):
  Calls Tryz.prog 112 #[v,.int .i64 (at_:Nat)] w fun e w'=>e= .returned (.tuple #[.int .u64 (yj zs at_ 8),.int .i64 0])∧w'=w:=by
 have H:=hid (qdl zs v at_ w h hz hl hm);go_enter Tryz.func112,Tryz.ntmps112
 go_wp2_with fail
 refine H.out.mono ?_;rintro e w1 ⟨rfl,rfl⟩;go_wp2
 exact Bp (results_tmp2 rfl _ _ _) rfl ⟨rfl,rfl⟩
theorem qbO (zs:List Int)(v:Value)(w:World)(h:Holds8 w v zs)(hz: ∀z∈zs,0≤z∧z≤255)(hl:zs.length=128):
  Calls Tryz.prog 113 #[v] w fun e w'=>e= .returned (.tuple #[.agg (qm .u64 (Qv 8 16 zs)),.int .i64 0])∧Below w.heap.size w w':=by
 obtain⟨a,cap,rfl⟩:=h.slice;obtain⟨b0,hb0⟩:=Ex w.heap.size;have H:=hid h;have HZ:=hid hz;have HL:=hid hl;rw[hl]at H⊢;clear h hz hl;go_enter Tryz.func113,Tryz.ntmps113
 go_wp2_with fail
 refine qj ?_;intro W hW;have hr:W.heap[b0]? =some (.cells #[.int .u64 0,.int .u64 0,.int .u64 0,.int .u64 0,.int .u64 0,.int .u64 0,.int .u64 0,.int .u64 0,.int .u64 0,.int .u64 0,.int .u64 0,.int .u64 0,.int .u64 0,.int .u64 0,.int .u64 0,.int .u64 0] 181 (0,0)):=by
  rw[hW];exact(Bh _ _ _ (by simp;omega)).trans (qc _ _ hb0.symm)
 have hv:W.heap[b0+1]? =some (.cells (qm .u64 (yH 8 16 zs 0)) 181 (0,0)):=by
  rw[hW];exact qc _ _ (by simp;omega)
 have hB:Below w.heap.size w W:=by
  rw[hW];exact((Below.refl w.heap.size w).alloc Nl _).alloc (by simp) _
 have hs1:b0+1<W.heap.size:=(Ai hv).1;clear hW;have HR:=hid hr;have HV:=hid hv;have HB:=hid hB;clear hr hv hB;go_loopw [10] (fun i wr=> ∃j:Nat,i= .int .i64 j∧j≤16∧wr.heap[b0+1]? =some (.cells (qm .u64 (yH 8 16 zs j)) 181 (0,0))∧But (b0+1) W wr) (fun i _=>16 - (intOf i).toNat)
 case atStart=>exact⟨0,rfl,Nat.zero_le _,HV.out,But.refl _ _⟩
 case round=>
  obtain⟨j,rfl,hj,hv,hB⟩:=hrel;have hsz:=hB.size;have HVr:=hid hv;have HBr:=hid hB;have HBw:=hid (HB.out.trans (hB.below (by omega) HB.out.size));by_cases hlt:j<16
  ·have c2:wr.cell? ⟨b0+1,j,none⟩=some (.int .u64 (wd (yH 8 16 zs j) j)):=(qi hv _).trans (zA (ye _ _ _ _) (by omega));have f2: ∀o,wr.frozen? ⟨b0+1,o,none⟩=false:=(Qd hv).2;have e8:IntKind.i64.wrap (8*(j:Int))=((8*j:Nat):Int):=by rw[IntKind.wrap_i64];omega
   have HLd:=hid (Jh zs (.slice a 128 cap) (8*j) wr (Qx H.out HBw.out) HZ.out (by have:=HL.out;omega) (by have:=HL.out;omega));have e9:((8*j:Nat):Int)=8*(j:Int):=by omega
   have hrange:8*(j:Int)≤128:=by omega
   rw[e9]at HLd;clear hv hB e8 e9;go_wp2_with fail
   refine HLd.out.mono ?_;rintro e2 w2 ⟨rfl,rfl⟩;go_wp2
   exact⟨⟨j+1,rfl,by omega,by rw[yH,←QX];exact block_setCell HVr.out _,HBr.out.set _ _⟩,by simp[intOf];omega⟩
  ·obtain rfl:j=16:=by omega
   have hW:=yP 8 16 HZ.out HL.out;have hr5:=(hB.block b0 (by omega) (by omega)).trans HR.out;rw[qai]at hv;clear hB HVr;go_wp2_with ((with_reducible show wpList _ _ _ (Oper.mk (some 23) _ _ _ _ _::_) _ _);refine wpList_load_row rfl 181 _ rfl (b0+1) rfl _ _ _ _ hv Tryz.underlying181 rfl (by rw[qg,hW.1];kernel_rfl) ?_;refine wpList_store_row rfl 181 _ _ rfl b0 (qm .u64 (Qv 8 16 zs)) rfl rfl 181 _ hr5 (by rw[qg,hW.1];kernel_rfl) (by rw[qg,hW.1];rfl) qU ?_)
   exact Bp (Qk rfl _ _ _ _ _ _ _ rfl (setRow_heap _ _ _ _ _ _ hr5) Tryz.underlying181 rfl (by rw[qg,hW.1];kernel_rfl)) rfl ⟨rfl,below_setRow (HBw.out.mono (by omega)) (by omega) _⟩
def yO (L:List Int)(f:Nat→Int):Nat→List Int
 | 0=>L
 | j+1=>(yO L f j).set j (f j)
theorem yf (L:List Int)(f:Nat→Int): ∀j,(yO L f j).length=L.length
 | 0=>rfl
 | j+1=>by simp[yO,yf L f j]
theorem qbi (L:List Int)(f:Nat→Int): ∀j i,i<j→i<L.length→(yO L f j)[i]? =some (f i)
 | j+1,i,h,hc=>by
  simp only[yO];by_cases e:i=j
  ·subst e;rw[List.getElem?_set_self (by rw[yf];exact hc)]
  ·rw[List.getElem?_set_ne (Ne.symm e)];exact qbi L f j i (by omega) hc
theorem zq (L:List Int)(f:Nat→Int): ∀j i,j≤i→wd (yO L f j) i=wd L i
 | 0,i,_=>rfl
 | j+1,i,h=>by
  have ih:=zq L f j i (by omega);simp only[yO];unfold wd at*;rw[Lg,List.getElem?_set_ne (by omega),←Lg];exact ih
theorem qaj (L:List Int)(f:Nat→Int):yO L f L.length=(List.range L.length).map f:=by
 apply List.ext_getElem?
 intro i;by_cases h:i<L.length
 ·rw[qbi L f _ i h h];simp[h]
 ·rw[List.getElem?_eq_none (by rw[yf];omega),List.getElem?_eq_none (by simp;omega)]
def Zk (k:IntKind)(iv:List Int)(n:Nat)(zs:List Int)(i:Nat):Int:=bits .xor k (wd iv i) (yj zs (n*i) n)
def yK (k:IntKind)(iv:List Int)(n:Nat)(zs:List Int):List Int:=(List.range 8).map (Zk k iv n zs)
theorem YK {k:IntKind}{N:Nat}(hm: ∀z,k.wrap z=z%2^N)(iv:List Int)(n:Nat)(zs:List Int):Words N 8 (yK k iv n zs):=by
 refine⟨by simp[yK],fun x hx=>?_⟩;simp only[yK,List.mem_map,List.mem_range]at hx;obtain⟨i,hi,rfl⟩:=hx;exact qQ _ _ _ hm _ _
theorem qbW (zs:List Int)(v:Value)(w:World)(h:Holds8 w v zs)(hz: ∀z∈zs,0≤z∧z≤255)(hl:zs.length=64):
  Calls Tryz.prog 87 #[v] w fun e w'=>e= .returned (.tuple #[.agg (qm .u64 (yK .u64 IVb 8 zs)),.int .i64 0])∧Below w.heap.size w w':=by
 obtain⟨a,cap,rfl⟩:=h.slice;obtain⟨b0,hb0⟩:=Ex w.heap.size;have H:=hid h;have HZ:=hid hz;have HL:=hid hl;rw[hl]at H⊢;clear h hz hl;go_enter Tryz.func87,Tryz.ntmps87
 go_wp2_with fail
 refine(qcP _).mono ?_;rintro e1 w1 ⟨rfl,hb1⟩;have hr0:=(hb1.block b0 (by simp;omega)).trans (qc _ _ hb0.symm);have hs0:b0+1≤w1.heap.size:=by have:=hb1.size;simp at this;omega
 have hB0:Below w.heap.size w w1:=((Below.refl w.heap.size w).alloc Nl _).trans (hb1.mono (by simp));clear hb1;go_wp2_with fail
 refine qj ?_;intro W hW;obtain⟨bv,hbv⟩:=Ex w1.heap.size;have hr:W.heap[b0]? =some (.cells #[.int .u64 0,.int .u64 0,.int .u64 0,.int .u64 0,.int .u64 0,.int .u64 0,.int .u64 0,.int .u64 0] 150 (0,0)):=by
  rw[hW];exact(Bh _ _ _ (by omega)).trans hr0
 have hv:W.heap[bv]? =some (.cells (qm .u64 (yO IVb (Zk .u64 IVb 8 zs) 0)) 150 (0,0)):=by
  rw[hW];exact qc _ _ hbv.symm
 have hB:Below w.heap.size w W:=by
  rw[hW];exact hB0.alloc (by omega) _
 rw[hbv];have hbb:b0+1≤bv:=by omega
 clear hW hr0 hs0 hB0 hbv;have hs1:bv<W.heap.size:=(Ai hv).1;have HR:=hid hr;have HV:=hid hv;have HB:=hid hB;clear hr hv hB;go_loopw [13] (fun i wr=> ∃j:Nat,i= .int .i64 j∧j≤8∧wr.heap[bv]? =some (.cells (qm .u64 (yO IVb (Zk .u64 IVb 8 zs) j)) 150 (0,0))∧But bv W wr) (fun i _=>8 - (intOf i).toNat)
 case atStart=>exact⟨0,rfl,Nat.zero_le _,HV.out,But.refl _ _⟩
 case round=>
  obtain⟨j,rfl,hj,hv,hB⟩:=hrel;have hsz:=hB.size;have HVr:=hid hv;have HBr:=hid hB;have HBw:=hid (HB.out.trans (hB.below (by omega) HB.out.size));have hvs:bv<wr.heap.size:=(Ai hv).1;by_cases hlt:j<8
  ·have c2:wr.cell? ⟨bv,j,none⟩=some (.int .u64 (wd IVb j)):=by
    rw[qi hv,zA (n:=8) (by rw[yf];rfl) (by omega),zq _ _ _ _ Nl]
   have f2: ∀o,wr.frozen? ⟨bv,o,none⟩=false:=(Qd hv).2;have e8:IntKind.i64.wrap (8*(j:Int))=((8*j:Nat):Int):=by rw[IntKind.wrap_i64];omega
   have HLd:=hid (Jh zs (.slice a 64 cap) (8*j) wr (Qx H.out HBw.out) HZ.out (by have:=HL.out;omega) (by have:=HL.out;omega));have e9:((8*j:Nat):Int)=8*(j:Int):=by omega
   have hrange:8*(j:Int)≤64:=by omega
   rw[e9]at HLd;clear hv hB e8 e9;go_wp2_with fail
   refine HLd.out.mono ?_;rintro e2 w2 ⟨rfl,rfl⟩;go_wp2
   exact⟨⟨j+1,rfl,by omega,by rw[yO,←QX];exact block_setCell HVr.out _,HBr.out.set _ _⟩,by simp[intOf];omega⟩
  ·obtain rfl:j=8:=by omega
   have hW:=YK (k:= .u64) (N:=64) (fun z=>IntKind.wrap_u64 z) IVb 8 zs;have hr5:=(hB.block b0 (by omega) (by omega)).trans HR.out;have hall:(yO IVb (Zk .u64 IVb 8 zs) 8)=yK .u64 IVb 8 zs:=qaj _ _;rw[hall]at hv;clear hB HVr hall;go_wp2_with ((with_reducible show wpList _ _ _ (Oper.mk (some 30) _ _ _ _ _::_) _ _);refine wpList_load_row rfl 150 _ rfl bv rfl _ _ _ _ hv Tryz.underlying150 rfl (by rw[qg,hW.1];kernel_rfl) ?_;refine wpList_store_row rfl 150 _ _ rfl b0 (qm .u64 (yK .u64 IVb 8 zs)) rfl rfl 150 _ hr5 (by rw[qg,hW.1];kernel_rfl) (by rw[qg,hW.1];rfl) qU ?_)
   exact Bp (Qk rfl _ _ _ _ _ _ _ rfl (setRow_heap _ _ _ _ _ _ hr5) Tryz.underlying150 rfl (by rw[qg,hW.1];kernel_rfl)) rfl ⟨rfl,below_setRow (HBw.out.mono (by omega)) (by omega) _⟩
theorem qed (zs:List Int)(v:Value)(at_:Nat)(w:World)(h:Holds8 w v zs)(hz: ∀z∈zs,0≤z∧z≤255)(hl:at_+4≤zs.length)(hm:zs.length≤4294967296):
  Calls Tryz.prog 137 #[v,.int .i64 (at_:Nat),.int .i64 4] w fun e w'=>e= .returned (.tuple #[.int .u64 (yj zs at_ 4),.int .i64 0])∧w'=w:=by
 obtain⟨a,cap,rfl,h⟩:=h;obtain⟨b,off,rfl,h1,h2⟩:=h.resolve_left (fun e=>by rw[e]at hl;simp at hl);have HC:=hid h2;clear h h2;go_enter Tryz.func137,Tryz.ntmps137
 go_wp2_with fail
 go_loopw [8,25] (fun s i wr=> ∃k:Nat,s= .int .u64 (yj zs at_ k)∧i= .int .i64 k∧w=wr∧k≤4) (fun _ i _=>4 - (intOf i).toNat)
 case atStart=>exact⟨0,rfl,rfl,rfl,by omega⟩
 case round=>
  obtain⟨k,rfl,rfl,rfl,hk⟩:=hrel;by_cases hlt:k<4
  ·have hc:=HC.out (at_+k) (by omega);have hv:=orZ (yj zs at_ k) (qp zs (at_+k)) k (by omega) (qY hz k (by omega)) (qX hz (by omega)).2;go_wp2
   exact⟨⟨k+1,rfl,rfl,by trivial,by omega⟩,by simp[intOf];omega⟩
  ·obtain rfl:k=4:=by omega
   go_wp2
   exact Bp (results_tmp2 (fn:=Tryz.f137) (t:=6) (u:=7) rfl _ _ _) rfl ⟨rfl,rfl⟩
theorem qcd (zs:List Int)(v:Value)(at_:Nat)(w:World)(h:Holds8 w v zs)(hz: ∀z∈zs,0≤z∧z≤255)(hl:at_+4≤zs.length)(hm:zs.length≤4294967296):
  Calls Tryz.prog 140 #[v,.int .i64 (at_:Nat)] w fun e w'=>e= .returned (.tuple #[.int .u32 (yj zs at_ 4),.int .i64 0])∧w'=w:=by
 have H:=hid (qed zs v at_ w h hz hl hm);have hb:=qY hz (at_:=at_) 4 hl;simp only[Nat.reduceMul,Int.reducePow]at hb;obtain⟨x,hx⟩:=Ex (yj zs at_ 4);rw[hx]at H hb⊢;obtain⟨hb1,hb2⟩:=hb;clear hx;go_enter Tryz.func140,Tryz.ntmps140
 go_wp2_with fail
 refine H.out.mono ?_;rintro e w1 ⟨rfl,rfl⟩;go_wp2
 exact Bp (results_tmp2 rfl _ _ _) rfl ⟨rfl,rfl⟩
theorem qa5 (n:Nat)(a:Option Addr)(cap:Nat)(w:World):Calls Tryz.prog 116 #[.slice a n cap,.int .i64 n] w fun e w'=>e= .returned (.int .i64 0)∧w'=w:=by
 go_enter Tryz.func116,Tryz.ntmps116
 go_wp2
 go_ret
 exact⟨rfl,rfl⟩
theorem Zz (c:Nat)(hc:c≤16)(bv:Nat)(T:TypeId)(zs:List Int)(v:Value)(w:World)(h:Holds8 w v zs)(hz: ∀z∈zs,0≤z∧z≤255)(hl:zs.length=4*c)(hv:w.heap[bv]? =some (.cells (qm .u32 (yH 4 c zs 0)) T (0,0)))
  (hne: ∀w',But bv w w'→Holds8 w' v zs):
  Calls Tryz.prog 117 #[.slice (some ⟨bv,0,none⟩) c c,v] w fun e w'=>e= .returned (.tuple #[])∧w'.heap[bv]? =some (.cells (qm .u32 (Qv 4 c zs)) T (0,0))∧But bv w w':=by
 have HN:=hid hne;have HZ:=hid hz;have HL:=hid hl;have HV:=hid hv;clear h hz hl hv hne;go_enter Tryz.func117,Tryz.ntmps117
 go_wp2_with fail
 go_loopw [7] (fun i wr=> ∃j:Nat,i= .int .i64 j∧j≤c∧wr.heap[bv]? =some (.cells (qm .u32 (yH 4 c zs j)) T (0,0))∧But bv w wr) (fun i _=>c - (intOf i).toNat)
 case atStart=>exact⟨0,rfl,Nat.zero_le _,HV.out,But.refl _ _⟩
 case round=>
  obtain⟨j,rfl,hj,hv,hB⟩:=hrel;have HVr:=hid hv;have HBr:=hid hB;by_cases hlt:j<c
  ·have c2:wr.cell? ⟨bv,j,none⟩=some (.int .u32 (wd (yH 4 c zs j) j)):=(qi hv _).trans (zA (ye _ _ _ _) hlt);have f2: ∀o,wr.frozen? ⟨bv,o,none⟩=false:=(Qd hv).2;have e9:((4*j:Nat):Int)=4*(j:Int):=by omega
   have HLd:=hid (qcd zs v (4*j) wr (HN.out wr hB) HZ.out (by have:=HL.out;omega) (by have:=HL.out;omega));have hrange:4*(j:Int)≤64:=by omega
   rw[e9]at HLd;clear hv hB e9;go_wp2_with fail
   refine HLd.out.mono ?_;rintro e2 w2 ⟨rfl,rfl⟩;go_wp2
   exact⟨⟨j+1,rfl,by omega,by rw[yH,←QX];exact block_setCell HVr.out _,HBr.out.set _ _⟩,by simp[intOf];omega⟩
  ·obtain rfl:j=c:=by omega
   rw[qai]at hv;have HV2:=hid hv;clear hv hB;go_wp2
   exact bodyPost_end (results_none rfl _ _ _) rfl ⟨rfl,HV2.out,HBr.out⟩
theorem qbP (zs:List Int)(v:Value)(w:World)(h:Holds8 w v zs)(hz: ∀z∈zs,0≤z∧z≤255)(hl:zs.length=64):
  Calls Tryz.prog 119 #[v] w fun e w'=>e= .returned (.tuple #[.agg (qm .u32 (Qv 4 16 zs)),.int .i64 0])∧Below w.heap.size w w':=by
 obtain⟨a,cap,rfl⟩:=h.slice;obtain⟨b0,hb0⟩:=Ex w.heap.size;have H:=hid h;have HZ:=hid hz;have HL:=hid hl;rw[hl]at H⊢;clear h hz hl;go_enter Tryz.func119,Tryz.ntmps119
 go_wp2_with fail
 refine(qa5 64 a cap _).mono ?_;rintro e1 w1 ⟨rfl,hw1⟩;have hr:w1.heap[b0]? =some (.cells #[.int .u32 0,.int .u32 0,.int .u32 0,.int .u32 0,.int .u32 0,.int .u32 0,.int .u32 0,.int .u32 0,.int .u32 0,.int .u32 0,.int .u32 0,.int .u32 0,.int .u32 0,.int .u32 0,.int .u32 0,.int .u32 0] 198 (0,0)):=by
  rw[hw1];exact(Bh _ _ _ (by simp;omega)).trans (qc _ _ hb0.symm)
 have hv:w1.heap[b0+1]? =some (.cells (qm .u32 (yH 4 16 zs 0)) 198 (0,0)):=by
  rw[hw1];exact qc _ _ (by simp;omega)
 have hB:Below w.heap.size w w1:=by
  rw[hw1];exact((Below.refl w.heap.size w).alloc Nl _).alloc (by simp) _
 clear hw1;have HB:=hid hB;have HR:=hid hr;have HV:=hid hv;clear hr hv hB;go_wp2_with fail
 refine(Zz 16 (by decide) (b0+1) 198 zs (.slice a 64 cap) w1 (Qx H.out HB.out) HZ.out HL.out HV.out (fun w' hw'=>Qx H.out (HB.out.trans (hw'.below (by omega) HB.out.size)))).mono ?_;rintro e2 w2 ⟨rfl,hv2,hB2⟩
 have hW:=yP 4 16 HZ.out HL.out;have hr5:=(hB2.block b0 (by have:=(Ai HR.out).1;omega) (by omega)).trans HR.out;have HB5:=hid (HB.out.trans (hB2.below (by omega) HB.out.size));clear hB2;go_wp2_with ((with_reducible show wpList _ _ _ (Oper.mk (some 15) _ _ _ _ _::_) _ _);refine wpList_load_row rfl 198 _ rfl (b0+1) rfl _ _ _ _ hv2 Tryz.underlying198 rfl (by rw[qg,hW.1];kernel_rfl) ?_;refine wpList_store_row rfl 198 _ _ rfl b0 (qm .u32 (Qv 4 16 zs)) rfl rfl 198 _ hr5 (by rw[qg,hW.1];kernel_rfl) (by rw[qg,hW.1];rfl) qU ?_)
 exact Bp (Qk rfl _ _ _ _ _ _ _ rfl (setRow_heap _ _ _ _ _ _ hr5) Tryz.underlying198 rfl (by rw[qg,hW.1];kernel_rfl)) rfl ⟨rfl,below_setRow (HB5.out.mono (by omega)) (by omega) _⟩
theorem qc1 (n c:Nat)(zs:List Int){i:Nat}(hi:i<c):wd (Qv n c zs) i=yj zs (n*i) n:=by
 simp[wd,Qv,Lg,hi]
theorem qbX (zs:List Int)(v:Value)(w:World)(h:Holds8 w v zs)(hz: ∀z∈zs,0≤z∧z≤255)(hl:zs.length=32):
  Calls Tryz.prog 90 #[v] w fun e w'=>e= .returned (.tuple #[.agg (qm .u32 (yK .u32 IVs 4 zs)),.int .i64 0])∧Below w.heap.size w w':=by
 obtain⟨a,cap,rfl⟩:=h.slice;obtain⟨b0,hb0⟩:=Ex w.heap.size;have H:=hid h;have HZ:=hid hz;have HL:=hid hl;rw[hl]at H⊢;clear h hz hl;go_enter Tryz.func90,Tryz.ntmps90
 go_wp2_with fail
 refine(qa5 32 a cap _).mono ?_;rintro e1 w1 ⟨rfl,hw1⟩;have hr1:w1.heap[b0]? =some (.cells #[.int .u32 0,.int .u32 0,.int .u32 0,.int .u32 0,.int .u32 0,.int .u32 0,.int .u32 0,.int .u32 0] 160 (0,0)):=by
  rw[hw1];exact qc _ _ hb0.symm
 have hB1:Below w.heap.size w w1:=by
  rw[hw1];exact(Below.refl w.heap.size w).alloc Nl _
 have hs1:w1.heap.size=b0+1:=by rw[hw1];simp;omega
 clear hw1;go_wp2_with fail
 have hv1:(w1.alloc (.cells #[.int .u32 0,.int .u32 0,.int .u32 0,.int .u32 0,.int .u32 0,.int .u32 0,.int .u32 0,.int .u32 0] 160 (0,0))).heap[b0+1]? =some (.cells (qm .u32 (yH 4 8 zs 0)) 160 (0,0)):=qc _ _ hs1.symm;have hB1':=hB1.alloc (by omega) (.cells #[.int .u32 0,.int .u32 0,.int .u32 0,.int .u32 0,.int .u32 0,.int .u32 0,.int .u32 0,.int .u32 0] 160 (0,0));refine(Zz 8 (by decide) (b0+1) 160 zs (.slice a 32 cap) _ (Qx H.out hB1') HZ.out HL.out hv1 (fun w' hw'=>Qx H.out (hB1'.trans (hw'.below (by omega) hB1'.size)))).mono ?_;rintro e2 w2 ⟨rfl,hv2,hB2⟩
 have hr2:=(hB2.block b0 (by simp;omega) (by omega)).trans ((Bh _ _ _ (by omega)).trans hr1);have hB2':=hB1'.trans (hB2.below (by omega) hB1'.size);have hs2:b0+1<w2.heap.size:=(Ai hv2).1;clear hB2 hr1 hB1 hv1 hB1' hs1;go_wp2_with fail
 refine(qcO _).mono ?_;rintro e3 w3 ⟨rfl,hb3⟩;have hp3:=(hb3.block (b0+1) hs2).trans hv2;have hr3:=(hb3.block b0 (by omega)).trans hr2;have hB3:=hB2'.trans (hb3.mono hB2'.size);have hs3:b0+1<w3.heap.size:=(Ai hp3).1;clear hb3 hv2 hr2 hB2' hs2;go_wp2_with fail
 refine qj ?_;intro W hW;obtain⟨bv,hbv⟩:=Ex w3.heap.size;have hr:W.heap[b0]? =some (.cells #[.int .u32 0,.int .u32 0,.int .u32 0,.int .u32 0,.int .u32 0,.int .u32 0,.int .u32 0,.int .u32 0] 160 (0,0)):=by rw[hW];exact(Bh _ _ _ (by omega)).trans hr3
 have hp:W.heap[b0+1]? =some (.cells (qm .u32 (Qv 4 8 zs)) 160 (0,0)):=by rw[hW];exact(Bh _ _ _ (by omega)).trans hp3
 have hv:W.heap[bv]? =some (.cells (qm .u32 (yO IVs (Zk .u32 IVs 4 zs) 0)) 160 (0,0)):=by rw[hW];exact qc _ _ hbv.symm
 have hB:Below w.heap.size w W:=by rw[hW];exact hB3.alloc (by omega) _
 rw[hbv];have hbb:b0+1<bv:=by omega
 have hsv:bv<W.heap.size:=(Ai hv).1;clear hW hr3 hp3 hB3 hs3 hbv;have HR:=hid hr;have HP:=hid hp;have HV:=hid hv;have HB:=hid hB;clear hr hp hv hB;go_loopw [18] (fun i wr=> ∃j:Nat,i= .int .i64 j∧j≤8∧wr.heap[bv]? =some (.cells (qm .u32 (yO IVs (Zk .u32 IVs 4 zs) j)) 160 (0,0))∧But bv W wr) (fun i _=>8 - (intOf i).toNat)
 case atStart=>exact⟨0,rfl,Nat.zero_le _,HV.out,But.refl _ _⟩
 case round=>
  obtain⟨j,rfl,hj,hv,hB⟩:=hrel;have hsz:=hB.size;have HVr:=hid hv;have HBr:=hid hB;have HBw:=hid (HB.out.trans (hB.below (by omega) HB.out.size));have hvs:bv<wr.heap.size:=(Ai hv).1;by_cases hlt:j<8
  ·have c2:wr.cell? ⟨bv,j,none⟩=some (.int .u32 (wd IVs j)):=by
    rw[qi hv,zA (n:=8) (by rw[yf];rfl) (by omega),zq _ _ _ _ Nl]
   have c1:wr.cell? ⟨b0+1,j,none⟩=some (.int .u32 (yj zs (4*j) 4)):=by
    rw[qi ((hB.block (b0+1) (by omega) (by omega)).trans HP.out),zA (n:=8) (by simp[Qv]) (by omega),qc1 _ _ _ hlt]
   have f2: ∀o,wr.frozen? ⟨bv,o,none⟩=false:=(Qd hv).2;have q1:b0+1<wr.heap.size:=by omega
   clear hv hB;go_wp2_with fail
   refine qe (by dsimp only[List.dropLast]) (by rfl) (by rfl) (by kernel_rfl) (by kernel_rfl) (by kernel_rfl) (by kernel_rfl) ?_;repeat(go_big_quiet_step (fail))
   refine wpQuiet_nil ?_;intro _ hw';obtain⟨n1,rfl⟩:=hw';go_wp2
   exact⟨⟨j+1,rfl,by omega,by rw[yO,←QX];exact block_setCell (w:=wr.drewN n1) HVr.out _,(HBr.out.drewN n1).set _ _⟩,by simp[intOf];omega⟩
  ·obtain rfl:j=8:=by omega
   have hW:=YK (k:= .u32) (N:=32) (fun z=>IntKind.wrap_u32 z) IVs 4 zs;have hr5:=(hB.block b0 (by omega) (by omega)).trans HR.out;have hall:(yO IVs (Zk .u32 IVs 4 zs) 8)=yK .u32 IVs 4 zs:=qaj _ _;rw[hall]at hv;clear hB HVr hall;go_wp2_with ((with_reducible show wpList _ _ _ (Oper.mk (some 30) _ _ _ _ _::_) _ _);refine wpList_load_row rfl 160 _ rfl (bv) rfl _ _ _ _ hv Tryz.underlying160 rfl (by rw[qg,hW.1];kernel_rfl) ?_;refine wpList_store_row rfl 160 _ _ rfl b0 (qm .u32 (yK .u32 IVs 4 zs)) rfl rfl 160 _ hr5 (by rw[qg,hW.1];kernel_rfl) (by rw[qg,hW.1];rfl) qU ?_)
   exact Bp (Qk rfl _ _ _ _ _ _ _ rfl (setRow_heap _ _ _ _ _ _ hr5) Tryz.underlying160 rfl (by rw[qg,hW.1];kernel_rfl)) rfl ⟨rfl,below_setRow (HBw.out.mono (by omega)) (by omega) _⟩
end Go.Proofs.YtdndeffmlhaipaaGreatDoor
namespace Go.Proofs.YtdndeffmlhaipaaGreatDoor
open Go.ChangeShapes Go.WideShapes Go.ChangeAt Go.RowKit Go.Joins Go.Shelf Go.Maps
open Go.Lib (hid)
attribute [local go_sem] Oper.semAt_some yt
def qP (n:Nat)(h:List Int):Nat→List Int
 | 0=>[]
 | i+1=>qP n h i++Qg (wd h i).toNat n
theorem z8 (n:Nat)(h:List Int): ∀i,(qP n h i).length=n*i
 | 0=>rfl
 | i+1=>by rw[qP,List.length_append,z8 n h i,qI,Nat.mul_succ]
theorem zG {N n:Nat}{L:List Int}(h:Words N n L){i:Nat}(hi:i<n):0≤wd L i∧wd L i<2^N:=by
 have e:wd L i=L[i]'(by rw[h.1];exact hi):=by unfold wd;simp[Lg,h.1,hi]
 rw[e];exact h.2 _ (List.getElem_mem _)
theorem qcw (x k:Nat):0≤byt x k∧byt x k≤255:=by unfold byt;omega
theorem Zb (x k:Nat): ∀z∈Qg x k,0≤z∧z≤255:=by
 intro z hz;simp only[Qg,List.mem_map]at hz;obtain⟨j, -,rfl⟩:=hz;exact qcw x j
theorem Za (n:Nat)(h:List Int): ∀i,∀z∈qP n h i,0≤z∧z≤255
 | 0,z,hz=>by simp[qP]at hz
 | i+1,z,hz=>by
  rw[qP,List.mem_append]at hz;rcases hz with hz|hz
  ·exact Za n h i z hz
  ·exact Zb _ _ z hz
theorem qf {W W':World}{base:Nat}{e:TypeId}{size:Nat}{v:Value}{n:Nat}{xs:List Value}(h:W.ownsRow base e size v n xs)(hb: ∀g,base≤g→g<W.heap.size→W'.heap[g]? =W.heap[g]?):W'.ownsRow base e size v n xs:=by
 refine⟨h.1,?_⟩;rcases h.2 with h2|⟨g,cap,cur,h1,h2,h3,h4⟩
 ·exact .inl h2
 ·exact .inr ⟨g,cap,cur,h1,h2,(hb g h2 (Ai h3).1).trans h3,h4⟩
theorem qcG {W:World}{base n:Nat}{v:Value}{zs:List Int}(h:W.ownsRow base 5 1 v n (zs.map qv))(h0:0<n):
  ∃g cap,v= .slice (some ⟨g,0,none⟩) n cap∧g<W.heap.size∧ ∀j u,(zs.map qv)[j]? =some u→W.cell? (Addr.add ⟨g,0,none⟩ j)=some u:=by
 rcases h.2 with⟨rfl,h2⟩|⟨g,cap,cur,rfl,hg⟩
 ·omega
 ·exact⟨g,cap,rfl,(h.lt g rfl).2,h.cells (g:=g) rfl⟩
theorem qbm {zs:List Int}: ∀u∈zs.map qv,u.oneCell'=true:=by
 intro u hu;obtain⟨z, -,rfl⟩:=List.mem_map.1 hu;rfl
theorem Ya {W:World}{base:Nat}{v:Value}{n:Nat}{zs:List Int}(h:W.ownsRow base 5 1 v n (zs.map qv)):Holds8 W v zs:=by
 have hn:n=zs.length:=by have:=h.1;simpa using this.symm
 subst hn;by_cases h0:zs.length=0
 ·have:zs=[]:=List.length_eq_zero_iff.1 h0
  subst this;rcases h.2 with⟨rfl, -⟩|⟨g,cap,cur,rfl, -⟩
  ·exact⟨none,0,rfl,.inl rfl⟩
  ·exact⟨_,cap,rfl,.inl rfl⟩
 ·obtain⟨g,cap,rfl,hg,hc⟩:=qcG h (Nat.pos_of_ne_zero h0);refine⟨_,cap,rfl,.inr ⟨g,0,rfl,hg,fun i hi=>?_⟩⟩;have:=hc i (.int .u8 (qp zs i)) (by simp[qv,qp,Lg,hi])
  rw[show(⟨g,0+i,none⟩:Addr)=Addr.add ⟨g,0,none⟩ i by by_cases h:i=0<;>simp[Addr.add,h]];exact this
theorem qcu (h:List Int)(hh:Words 64 8 h)(w:World):
  Calls Tryz.prog 89 #[.agg (qm .u64 h)] w fun e w'=> ∃v,e= .returned v∧w'.ownsRow w.heap.size 5 1 v 64 ((qP 8 h 8).map qv)∧Below w.heap.size w w':=by
 obtain⟨i0,hi,hz0,hz1,hz2⟩:=info_parts QH;obtain⟨b0,hb0⟩:=Ex w.heap.size;go_enter Tryz.func89,Tryz.ntmps89
 obtain⟨W0,hW0⟩:=Ex (w.alloc (.cells (qm .u64 h) 150));have hs0:W0.heap.size=w.heap.size+1:=by rw[←hW0];simp
 have hbl0:Below w.heap.size w W0:=by rw[←hW0];exact(Below.refl w.heap.size w).alloc Nl _
 have hr0:W0.heap[b0]? =some (.cells (qm .u64 h) 150 (0,0)):=by rw[←hW0];exact qc _ _ hb0.symm
 obtain⟨w1,hr,hown1,hgrow1⟩:=run_make_own (P:=Tryz.prog) W0 w.heap.size 24 5 i0 (.int .u8 0) 1 Tryz.underlying24 hi hz0 hz1 .i64 .i64 64 (by rw[hz2];omega) (by unfold maxLen;omega) (by omega);have hr':(Instr.makeSlice 24 (.int .i64 0) (.int .i64 64)).run Tryz.prog W0= .ok (.slice (some ⟨W0.heap.size,0,none⟩) 0 64) w1:=hr;have hrow:w1.heap[b0]? =some (.cells (qm .u64 h) 150 (0,0)):=(hgrow1.block b0 (by omega) (by simp)).trans hr0;have hb1:Below w.heap.size w w1:=hbl0.grown hgrow1 (by omega) (fun k e=>by cases e);obtain⟨bg,hbg⟩:=Ex W0.heap.size;have hgb:b0<bg:=by omega
 rw[hbg]at hr' hown1;have HR:=hid hrow;have HB:=hid hb1;have HO:=hid hown1;have HH:=hid hh;clear hr hgrow1 hbl0 hr0 hb1 hown1 hs0 hbg;rw[hb0]at HO HB⊢;go_wp2_with ((with_reducible show wpList _ _ _ (Oper.mk _ (Op.load _ _) _ _ _ _::_) _ _);refine wpList_load_row rfl 150 _ rfl b0 rfl _ _ _ _ HR.out Tryz.underlying150 rfl (by rw[qg,HH.out.1];kernel_rfl) ?_)
 go_loopw [3,8] (fun s i wr=> ∃(k:Nat) (v:Value),s=v∧i= .int .i64 k∧k≤8∧wr.ownsRow b0 5 1 v (8*k) ((qP 8 h k).map qv)∧Below b0 w wr) (fun _ i _=>8 - (intOf i).toNat)
 case atStart=>exact⟨0,_,rfl,rfl,Nat.zero_le _,HO.out,HB.out⟩
 case round=>
  obtain⟨k,v,rfl,rfl,hk,hown,hb⟩:=hrel;have hsr:=hb.size;by_cases hlt:k<8
  ·have ha:=qy (k:= .u64) HH.out hlt;obtain⟨x,hx⟩: ∃x:Nat,(x:Int)=wd h k:=⟨(wd h k).toNat,by have:=(zG HH.out hlt);omega⟩;rw[←hx]at ha;have hxb:(x:Int)≤18446744073709551615:=by have:=(zG HH.out hlt);omega
   have hnat:(wd h k).toNat=x:=by omega
   have e1:(qP 8 h (k+1)).map qv=(qP 8 h k).map qv++(Qg x 8).map qv:=by rw[qP,List.map_append,hnat]
   have E1:=hid e1;have OW:=hid hown;have BW:=hid hb;clear e1 hown hb hx hnat;go_wp2_with fail
   refine(qbU x hxb _).mono ?_;rintro e2 w2 ⟨v2,rfl,hown2,hb2⟩
   have hown':=qf OW.out (W':=w2) (fun g _ hg=>hb2.block g hg);have hB2:Below b0 w w2:=BW.out.trans (hb2.mono (by omega));have hs2:=hb2.size;obtain⟨g2,c2,rfl,hg2,hc2⟩:=qcG hown2 (by decide);clear hb2;go_wp2_with (at_builtin;refine wpList_append_own _ rfl _ _ 24 rfl b0 5 i0 (.int .u8 0) 1 1 Tryz.underlying24 hi hz0 hz1 hz2 rfl (by decide) _ _ _ rfl hown' ⟨g2,0,none⟩ 8 c2 ((Qg x 8).map qv) rfl (by rw[List.length_map,qI]) hc2 qbm (by unfold maxLen;omega) (by omega) (by omega) ?_;intro v' w3 hown3 hgrow _;have hb3:Below b0 w w3:=hB2.grown hgrow (by omega) (fun k e=>(hown'.lt k e).1))
   rw[←E1.out,←Nat.mul_succ]at hown3;exact⟨⟨k+1,v',rfl,rfl,by omega,hown3,hb3⟩,by simp[intOf];omega⟩
  ·obtain rfl:k=8:=by omega
   go_wp2
   go_ret
   exact⟨_,rfl,hown,hb⟩
attribute [local go_sem] Oper.semAt_some yt
theorem qcr (W:World)(a0 a1 a2 a3:Value)(T:TypeId): ∀j u,[a0,a1,a2,a3][j]? =some u→(W.alloc (.cells #[a0,a1,a2,a3] T)).cell? (Addr.add ⟨W.heap.size,0,none⟩ j)=some u:=by
 intro j u hj;have h:=qa (Wn W (.cells #[a0,a1,a2,a3] T)) j;rw[show Addr.add ⟨W.heap.size,0,none⟩ j=⟨W.heap.size,j,none⟩ by first|(simp[Addr.add];done)|(simp[Addr.add];omega),h];simpa using hj
theorem qcv (h:List Int)(hh:Words 32 8 h)(w:World):
  Calls Tryz.prog 92 #[.agg (qm .u32 h)] w fun e w'=> ∃v,e= .returned v∧w'.ownsRow w.heap.size 5 1 v 32 ((qP 4 h 8).map qv)∧Below w.heap.size w w':=by
 obtain⟨i0,hi,hz0,hz1,hz2⟩:=info_parts QH;obtain⟨b0,hb0⟩:=Ex w.heap.size;go_enter Tryz.func92,Tryz.ntmps92
 obtain⟨W0,hW0⟩:=Ex (w.alloc (.cells (qm .u32 h) 160));have hs0:W0.heap.size=w.heap.size+1:=by rw[←hW0];simp
 have hbl0:Below w.heap.size w W0:=by rw[←hW0];exact(Below.refl w.heap.size w).alloc Nl _
 have hr0:W0.heap[b0]? =some (.cells (qm .u32 h) 160 (0,0)):=by rw[←hW0];exact qc _ _ hb0.symm
 obtain⟨w1,hr,hown1,hgrow1⟩:=run_make_own (P:=Tryz.prog) W0 w.heap.size 24 5 i0 (.int .u8 0) 1 Tryz.underlying24 hi hz0 hz1 .i64 .i64 32 (by rw[hz2];omega) (by unfold maxLen;omega) (by omega);have hr':(Instr.makeSlice 24 (.int .i64 0) (.int .i64 32)).run Tryz.prog W0= .ok (.slice (some ⟨W0.heap.size,0,none⟩) 0 32) w1:=hr;have hrow:w1.heap[b0]? =some (.cells (qm .u32 h) 160 (0,0)):=(hgrow1.block b0 (by omega) (by simp)).trans hr0;have hb1:Below w.heap.size w w1:=hbl0.grown hgrow1 (by omega) (fun k e=>by cases e);obtain⟨bg,hbg⟩:=Ex W0.heap.size;have hgb:b0<bg:=by omega
 rw[hbg]at hr' hown1;have HR:=hid hrow;have HB:=hid hb1;have HO:=hid hown1;have HH:=hid hh;clear hr hgrow1 hbl0 hr0 hb1 hown1 hs0 hbg;rw[hb0]at HO HB⊢;go_wp2_with ((with_reducible show wpList _ _ _ (Oper.mk _ (Op.load _ _) _ _ _ _::_) _ _);refine wpList_load_row rfl 160 _ rfl b0 rfl _ _ _ _ HR.out Tryz.underlying160 rfl (by rw[qg,HH.out.1];kernel_rfl) ?_)
 go_loopw [3,8] (fun s i wr=> ∃(k:Nat) (v:Value),s=v∧i= .int .i64 k∧k≤8∧wr.ownsRow b0 5 1 v (4*k) ((qP 4 h k).map qv)∧Below b0 w wr) (fun _ i _=>8 - (intOf i).toNat)
 case atStart=>exact⟨0,_,rfl,rfl,Nat.zero_le _,HO.out,HB.out⟩
 case round=>
  obtain⟨k,v,rfl,rfl,hk,hown,hb⟩:=hrel;have hsr:=hb.size;by_cases hlt:k<8
  ·have ha:=qy (k:= .u32) HH.out hlt;obtain⟨x,hx⟩: ∃x:Nat,(x:Int)=wd h k:=⟨(wd h k).toNat,by have:=(zG HH.out hlt);omega⟩;rw[←hx]at ha;have hxb:(x:Int)≤4294967295:=by have:=(zG HH.out hlt);omega
   have hnat:(wd h k).toNat=x:=by omega
   have q0:(x:Int)%256=byt x 0:=by have:=YP x 0;simpa using this
   have q1:(x:Int)/256%256=byt x 1:=YP x 1;have q2:(x:Int)/65536%256=byt x 2:=YP x 2;have q3:(x:Int)/16777216=byt x 3:=by
    have h3:(x:Int)/16777216%256=byt x 3:=YP x 3;rw[←h3];omega
   have e1:(qP 4 h (k+1)).map qv=(qP 4 h k).map qv++[.int .u8 (byt x 0),.int .u8 (byt x 1),.int .u8 (byt x 2),.int .u8 (byt x 3)]:=by rw[qP,List.map_append,hnat];rfl
   have E1:=hid e1;clear e1 hx hnat;go_wp2_with (at_builtin;refine wpList_append_own _ rfl _ _ 24 rfl b0 5 i0 (.int .u8 0) 1 1 Tryz.underlying24 hi hz0 hz1 hz2 rfl (by decide) _ _ _ rfl (hown.alloc _) ⟨wr.heap.size,0,none⟩ 4 4 [.int .u8 (byt x 0),.int .u8 (byt x 1),.int .u8 (byt x 2),.int .u8 (byt x 3)] rfl rfl (qcr _ _ _ _ _ _) (by simp[Value.oneCell']) (by unfold maxLen;omega) (by omega) (by simp;omega) ?_;intro v' w2 hown' hgrow _;have hb3:Below b0 w w2:=(hb.alloc (by omega) _).grown hgrow (by simp;omega) (fun k e=>(hown.lt k e).1))
   rw[←E1.out,←Nat.mul_succ]at hown';exact⟨⟨k+1,v',rfl,rfl,by omega,hown',hb3⟩,by simp[intOf];omega⟩
  ·obtain rfl:k=8:=by omega
   go_wp2
   go_ret
   exact⟨_,rfl,hown,hb⟩
end Go.Proofs.YtdndeffmlhaipaaGreatDoor
