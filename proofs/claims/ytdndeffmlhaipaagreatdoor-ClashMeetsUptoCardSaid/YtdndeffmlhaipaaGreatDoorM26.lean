/- What the program takes from a block of parameters, of both kinds. No condition. -/
import Derived.Test.YtdndeffmlhaipaaGreatDoorM24
import Derived.Test.YtdndeffmlhaipaaGreatDoorM25
import Derived.Test.YtdndeffmlhaipaaGreatDoorM23
import Derived.Test.YtdndeffmlhaipaaGreatDoorM04
import Derived.Laws.OwnMore
import Derived.Test.YtdndeffmlhaipaaGreatDoorM19
import Derived.Test.YtdndeffmlhaipaaGreatDoorM18
set_option linter.all false
set_option maxRecDepth 100000
set_option maxHeartbeats 8000000
namespace Go.Proofs.YtdndeffmlhaipaaGreatDoor
open Go.ChangeShapes Go.WideShapes Go.ChangeAt Go.RowKit Go.Joins Go.Shelf Go.Maps
open Go.Lib (hid)
attribute [local go_sem] Oper.semAt_some
def okD (big ext:Bool)(zs:List Int):Prop:=zs.length=mB big∧(big=true→ ∀i,18≤i→i<32→qp zs i=0)∧(ext=true→xoZ big ext zs≠0)∧okC big (qp zs 0) (qp zs 1) (qp zs 3) (xoZ big ext zs) (qp zs (atB big 9))
theorem qak (big:Bool)(zs:List Int)(v:Value)(w:World)(h:Holds8 w v zs)(hz: ∀z∈zs,0≤z∧z≤255)(hcap: ∀a n c,v= .slice a n c→n≤c∧(c:Int)≤9223372036854775807)(hok:okD big false zs):
  Calls Tryz.prog 32 #[.int .i64 (kB big),v,.bool false] w fun e w'=>(∃fo dp lf ofs nd inr sa pe,e= .returned (.tuple #[Zo (qp zs 0) (qp zs 1) fo dp lf ofs 0 nd inr sa pe,.int .i64 0])∧sa.oneCell'=true∧pe.oneCell'=true)∧Below w.heap.size w w':=by
 obtain⟨a,cap,rfl,h⟩:=h;obtain⟨hl,hm, -,k0,k1,k3,k9⟩:=hok;obtain⟨b,off,rfl,hB⟩:=h.resolve_left (fun e=>by rw[e]at hl;cases big<;>simp[mB]at hl);obtain⟨hc1,hc2⟩:=hcap _ _ _ rfl
 cases big
 ·have hl':zs.length=32:=hl;rw[hl']at hc1⊢;exact Zt zs b off cap w hB hz hc1 hc2 hl' k0 k1.2 (k3 rfl) k9.2
 ·have hl':zs.length=64:=hl;rw[hl']at hc1⊢;exact ZQ zs b off cap w hB hz hc1 hc2 hl' (hm rfl) k0 k1.2 (k3 rfl) k9.2
end Go.Proofs.YtdndeffmlhaipaaGreatDoor
namespace Go.Proofs.YtdndeffmlhaipaaGreatDoor
open Go.ChangeShapes Go.WideShapes Go.ChangeAt Go.RowKit Go.Joins Go.Shelf Go.Maps
open Go.Lib (hid)
def szE (big ext:Bool)(f:Nat):Nat:=if f=6∧ext=true then 4 else szB big f
theorem Zj (big ext:Bool)(f:Nat)(h1:1≤f)(h2:f≤9):1≤szE big ext f∧szE big ext f≤8∧atB big f+szE big ext f≤18∧(big=false→atB big f+szE big ext f≤16):=by
 have h:f=1∨f=2∨f=3∨f=4∨f=5∨f=6∨f=7∨f=8∨f=9:=by omega
 rcases h with rfl|rfl|rfl|rfl|rfl|rfl|rfl|rfl|rfl<;>cases big<;>cases ext<;>decide
end Go.Proofs.YtdndeffmlhaipaaGreatDoor
namespace Go.Proofs.YtdndeffmlhaipaaGreatDoor
open Go.ChangeShapes Go.WideShapes Go.ChangeAt Go.RowKit Go.Joins Go.Shelf Go.Maps
open Go.Lib (hid)
attribute [local go_sem] Oper.semAt_some
theorem Holds8.mono_below {w w':World}{v:Value}{zs:List Int}{B:Nat}(h:Holds8 w v zs)(hb:Below B w w')(hB:w.heap.size≤B):Holds8 w' v zs:=Qx h (hb.mono hB)
theorem qbc (h bs:List Int)(hh:Words 64 8 h)(v:Value)(lo:Nat)(hlo:(lo:Int)<9223372036854775808)(last node:Bool)(w:World)(hH:Holds8 w v bs)(hz: ∀z∈bs,0≤z∧z≤255)(hl:bs.length=128):
  Calls Tryz.prog 88 #[.agg (qm .u64 h),v,.agg #[.int .u64 (lo:Nat),.int .u64 0],.bool last,.bool node] w fun e w'=>e= .returned (.agg (qm .u64 (Ym true h bs (lo:Nat) last node)))∧Below w.heap.size w w':=by
 obtain⟨b0,hb0⟩:=Ex w.heap.size;have hMw:=yP 8 16 hz (by rw[hl]);obtain⟨M,hM⟩:=Ex (Qv 8 16 bs);obtain⟨R,hR⟩:=Ex (Ym true h bs (lo:Nat) last node);have hRw:Words 64 8 R:=by rw[←hR];exact QP true hh _ _ _ _
 have hR2:jy mixBig IVb 12 h M (lo:Nat) 0 last node=R:=by rw[←hR,←hM];rfl
 rw[hR];rw[hM]at hMw;have HM:=hid hM;have HR2:=hid hR2;have HL:=hid hl;have HLO:=hid hlo;clear hM hR hR2 hl hlo;have hbA:Below b0 w (((w.alloc (.cells (qm .u64 h) 150)).alloc (.cells #[.int .u64 (lo:Nat),.int .u64 0] 157)).alloc (.cells #[.int .u64 0,.int .u64 0,.int .u64 0,.int .u64 0,.int .u64 0,.int .u64 0,.int .u64 0,.int .u64 0] 150)):=by rw[←hb0];exact((Br.alloc Nl _).alloc (by simp) _).alloc (by simp;omega) _
 have hsA:(((w.alloc (.cells (qm .u64 h) 150)).alloc (.cells #[.int .u64 (lo:Nat),.int .u64 0] 157)).alloc (.cells #[.int .u64 0,.int .u64 0,.int .u64 0,.int .u64 0,.int .u64 0,.int .u64 0,.int .u64 0,.int .u64 0] 150)).heap.size=b0+1+1+1:=by simp[hb0]
 have h0:(((w.alloc (.cells (qm .u64 h) 150)).alloc (.cells #[.int .u64 (lo:Nat),.int .u64 0] 157)).alloc (.cells #[.int .u64 0,.int .u64 0,.int .u64 0,.int .u64 0,.int .u64 0,.int .u64 0,.int .u64 0,.int .u64 0] 150)).heap[b0]? =some (.cells (qm .u64 h) 150 (0,0)):=by
  rw[Bh _ _ _ (by simp[hb0];omega),Bh _ _ _ (by simp[hb0]),←hb0];exact Wn _ _
 have h1:(((w.alloc (.cells (qm .u64 h) 150)).alloc (.cells #[.int .u64 (lo:Nat),.int .u64 0] 157)).alloc (.cells #[.int .u64 0,.int .u64 0,.int .u64 0,.int .u64 0,.int .u64 0,.int .u64 0,.int .u64 0,.int .u64 0] 150)).heap[b0+1]? =some (.cells #[.int .u64 (lo:Nat),.int .u64 0] 157 (0,0)):=by
  rw[Bh _ _ _ (by simp[hb0]),show b0+1=(w.alloc (.cells (qm .u64 h) 150)).heap.size by simp[hb0]];exact Wn _ _
 have h2:(((w.alloc (.cells (qm .u64 h) 150)).alloc (.cells #[.int .u64 (lo:Nat),.int .u64 0] 157)).alloc (.cells #[.int .u64 0,.int .u64 0,.int .u64 0,.int .u64 0,.int .u64 0,.int .u64 0,.int .u64 0,.int .u64 0] 150)).heap[b0+1+1]? =some (.cells #[.int .u64 0,.int .u64 0,.int .u64 0,.int .u64 0,.int .u64 0,.int .u64 0,.int .u64 0,.int .u64 0] 150 (0,0)):=by
  rw[show b0+1+1=((w.alloc (.cells (qm .u64 h) 150)).alloc (.cells #[.int .u64 (lo:Nat),.int .u64 0] 157)).heap.size by simp[hb0]];exact Wn _ _
 have HH:=hid (hH.mono_below hbA (by omega));clear hH;go_enter Tryz.func88,Tryz.ntmps88
 go_wp2_with fail
 generalize (((w.alloc (.cells (qm .u64 h) 150)).alloc (.cells #[.int .u64 (lo:Nat),.int .u64 0] 157)).alloc (.cells #[.int .u64 0,.int .u64 0,.int .u64 0,.int .u64 0,.int .u64 0,.int .u64 0,.int .u64 0,.int .u64 0] 150))=w0 at*;refine(qbO bs v _ HH.out hz HL.out).mono ?_;rintro e w1 ⟨rfl,hb1⟩;rw[HM.out];have hs1:=hb1.size;have k0:=qb h0 hb1;have k1:=qb h1 hb1;have k2:=qb h2 hb1;have hB1:Below b0 w w1:=hbA.trans (hb1.mono (by omega));have hsz:b0+3≤w1.heap.size:=by omega
 clear h0 h1 h2 hb1 hbA HH hsA hs1;have K0:=hid k0;have K1:=hid k1;have K2:=hid k2;have HHW:=hid hh;clear k0 k1 k2 hh hz;go_upto_region 2 with((with_reducible show wpList _ _ _ (Oper.mk none (Op.store 181 _ _) _ _ _ _::_) _ _);refine wpList_store_row rfl 181 _ _ rfl w1.heap.size (qm .u64 M) rfl rfl 181 _ (Wn _ _) (by rw[qg,hMw.1];kernel_rfl) (by rw[qg,hMw.1];rfl) qU ?_)
 refine qj ?_;intro W hW;obtain⟨bv,hbv⟩:=Ex w1.heap.size;have g0:W.heap[b0]? =some (.cells (qm .u64 h) 150 (0,0)):=by rw[hW];exact(setRow_other (w1.alloc _) _ _ _ (by omega)).trans ((Bh _ _ _ (by omega)).trans K0.out)
 have g1:W.heap[b0+1]? =some (.cells #[.int .u64 (lo:Nat),.int .u64 0] 157 (0,0)):=by rw[hW];exact(setRow_other (w1.alloc _) _ _ _ (by omega)).trans ((Bh _ _ _ (by omega)).trans K1.out)
 have g2:W.heap[b0+1+1]? =some (.cells #[.int .u64 0,.int .u64 0,.int .u64 0,.int .u64 0,.int .u64 0,.int .u64 0,.int .u64 0,.int .u64 0] 150 (0,0)):=by rw[hW];exact(setRow_other (w1.alloc _) _ _ _ (by omega)).trans ((Bh _ _ _ (by omega)).trans K2.out)
 have g3:W.heap[bv]? =some (.cells (qm .u64 M) 181 (0,0)):=by rw[hW,←hbv];exact setRow_heap _ _ _ _ _ _ (Wn _ _)
 have hB2:Below b0 w W:=by rw[hW];exact below_setRow (hB1.alloc (by omega) _) (by omega) _
 rw[hbv];clear hW hB1 hbv hsz K0 K1 K2;have HRW:=hid hRw;have HMW:=hid hMw;clear hRw hMw;have c10:=qa g1 0;go_wp2_with (first|((with_reducible show wpList _ _ _ (Oper.mk (some 18) _ _ _ _ _::_) _ _);refine wpList_load_row rfl 150 _ rfl b0 rfl _ _ _ _ g0 Tryz.underlying150 rfl (by rw[qg,HHW.out.1];kernel_rfl) ?_)|((with_reducible show wpList _ _ _ (Oper.mk (some 19) _ _ _ _ _::_) _ _);refine wpList_load_row rfl 181 _ rfl bv rfl _ _ _ _ g3 Tryz.underlying181 rfl (by rw[qg,HMW.out.1];kernel_rfl) ?_)|((with_reducible show wpList _ _ _ (Oper.mk (some 20) _ _ _ _ _::_) _ _);refine wpList_load_row rfl 157 _ rfl (b0+1) rfl _ _ _ _ g1 Tryz.underlying157 rfl (by kernel_rfl) ?_))
 refine(qe5 h M HHW.out HMW.out (lo:Nat) 0 last node _).mono ?_;rintro e w2 ⟨rfl,hb2⟩;rw[HR2.out];have j2:=qb g2 hb2;have hB3:Below b0 w w2:=hB2.trans (hb2.mono (by have:=(Ai g2).1;omega));clear g0 g1 g2 g3 hB2 hb2 c10;go_wp2_with ((with_reducible show wpList _ _ _ (Oper.mk none (Op.store 150 _ _) _ _ _ _::_) _ _);refine wpList_store_row rfl 150 _ _ rfl (b0+1+1) (qm .u64 R) rfl rfl 150 _ j2 (by rw[qg,HRW.out.1];kernel_rfl) (by rw[qg,HRW.out.1];rfl) qU ?_)
 exact Bp (results_cell_row rfl _ _ (b0+1+1) 150 _ _ _ rfl (setRow_heap _ _ _ _ _ _ j2) Tryz.underlying150 rfl (by rw[qg,HRW.out.1];kernel_rfl)) rfl ⟨rfl,by rw[hb0];exact below_setRow hB3 (by omega) _⟩
theorem J8 (h bs:List Int)(hh:Words 32 8 h)(v:Value)(lo:Nat)(hlo:(lo:Int)<9223372036854775808)(last node:Bool)(w:World)(hH:Holds8 w v bs)(hz: ∀z∈bs,0≤z∧z≤255)(hl:bs.length=64):
  Calls Tryz.prog 91 #[.agg (qm .u32 h),v,.agg #[.int .u64 (lo:Nat),.int .u64 0],.bool last,.bool node] w fun e w'=>e= .returned (.agg (qm .u32 (Ym false h bs (lo:Nat) last node)))∧Below w.heap.size w w':=by
 obtain⟨b0,hb0⟩:=Ex w.heap.size;have hMw:=yP 4 16 hz (by rw[hl]);obtain⟨M,hM⟩:=Ex (Qv 4 16 bs);obtain⟨R,hR⟩:=Ex (Ym false h bs (lo:Nat) last node);have hRw:Words 32 8 R:=by rw[←hR];exact QP false hh _ _ _ _
 have hR2:jy mixSmall IVs 10 h M ((lo:Nat)%4294967296) ((lo:Nat)/4294967296) last node=R:=by rw[←hR,←hM];rfl
 rw[hR];rw[hM]at hMw;have HM:=hid hM;have HR2:=hid hR2;have HL:=hid hl;have HLO:=hid hlo;clear hM hR hR2 hl hlo;have hbA:Below b0 w (((w.alloc (.cells (qm .u32 h) 160)).alloc (.cells #[.int .u64 (lo:Nat),.int .u64 0] 157)).alloc (.cells #[.int .u32 0,.int .u32 0,.int .u32 0,.int .u32 0,.int .u32 0,.int .u32 0,.int .u32 0,.int .u32 0] 160)):=by rw[←hb0];exact((Br.alloc Nl _).alloc (by simp) _).alloc (by simp;omega) _
 have hsA:(((w.alloc (.cells (qm .u32 h) 160)).alloc (.cells #[.int .u64 (lo:Nat),.int .u64 0] 157)).alloc (.cells #[.int .u32 0,.int .u32 0,.int .u32 0,.int .u32 0,.int .u32 0,.int .u32 0,.int .u32 0,.int .u32 0] 160)).heap.size=b0+1+1+1:=by simp[hb0]
 have h0:(((w.alloc (.cells (qm .u32 h) 160)).alloc (.cells #[.int .u64 (lo:Nat),.int .u64 0] 157)).alloc (.cells #[.int .u32 0,.int .u32 0,.int .u32 0,.int .u32 0,.int .u32 0,.int .u32 0,.int .u32 0,.int .u32 0] 160)).heap[b0]? =some (.cells (qm .u32 h) 160 (0,0)):=by
  rw[Bh _ _ _ (by simp[hb0];omega),Bh _ _ _ (by simp[hb0]),←hb0];exact Wn _ _
 have h1:(((w.alloc (.cells (qm .u32 h) 160)).alloc (.cells #[.int .u64 (lo:Nat),.int .u64 0] 157)).alloc (.cells #[.int .u32 0,.int .u32 0,.int .u32 0,.int .u32 0,.int .u32 0,.int .u32 0,.int .u32 0,.int .u32 0] 160)).heap[b0+1]? =some (.cells #[.int .u64 (lo:Nat),.int .u64 0] 157 (0,0)):=by
  rw[Bh _ _ _ (by simp[hb0]),show b0+1=(w.alloc (.cells (qm .u32 h) 160)).heap.size by simp[hb0]];exact Wn _ _
 have h2:(((w.alloc (.cells (qm .u32 h) 160)).alloc (.cells #[.int .u64 (lo:Nat),.int .u64 0] 157)).alloc (.cells #[.int .u32 0,.int .u32 0,.int .u32 0,.int .u32 0,.int .u32 0,.int .u32 0,.int .u32 0,.int .u32 0] 160)).heap[b0+1+1]? =some (.cells #[.int .u32 0,.int .u32 0,.int .u32 0,.int .u32 0,.int .u32 0,.int .u32 0,.int .u32 0,.int .u32 0] 160 (0,0)):=by
  rw[show b0+1+1=((w.alloc (.cells (qm .u32 h) 160)).alloc (.cells #[.int .u64 (lo:Nat),.int .u64 0] 157)).heap.size by simp[hb0]];exact Wn _ _
 have HH:=hid (hH.mono_below hbA (by omega));clear hH;go_enter Tryz.func91,Tryz.ntmps91
 go_wp2_with fail
 generalize (((w.alloc (.cells (qm .u32 h) 160)).alloc (.cells #[.int .u64 (lo:Nat),.int .u64 0] 157)).alloc (.cells #[.int .u32 0,.int .u32 0,.int .u32 0,.int .u32 0,.int .u32 0,.int .u32 0,.int .u32 0,.int .u32 0] 160))=w0 at*;refine(qbP bs v _ HH.out hz HL.out).mono ?_;rintro e w1 ⟨rfl,hb1⟩;rw[HM.out];have hs1:=hb1.size;have k0:=qb h0 hb1;have k1:=qb h1 hb1;have k2:=qb h2 hb1;have hB1:Below b0 w w1:=hbA.trans (hb1.mono (by omega));have hsz:b0+3≤w1.heap.size:=by omega
 clear h0 h1 h2 hb1 hbA HH hsA hs1;have K0:=hid k0;have K1:=hid k1;have K2:=hid k2;have HHW:=hid hh;clear k0 k1 k2 hh hz;go_upto_region 2 with((with_reducible show wpList _ _ _ (Oper.mk none (Op.store 198 _ _) _ _ _ _::_) _ _);refine wpList_store_row rfl 198 _ _ rfl w1.heap.size (qm .u32 M) rfl rfl 198 _ (Wn _ _) (by rw[qg,hMw.1];kernel_rfl) (by rw[qg,hMw.1];rfl) qU ?_)
 refine qj ?_;intro W hW;obtain⟨bv,hbv⟩:=Ex w1.heap.size;have g0:W.heap[b0]? =some (.cells (qm .u32 h) 160 (0,0)):=by rw[hW];exact(setRow_other (w1.alloc _) _ _ _ (by omega)).trans ((Bh _ _ _ (by omega)).trans K0.out)
 have g1:W.heap[b0+1]? =some (.cells #[.int .u64 (lo:Nat),.int .u64 0] 157 (0,0)):=by rw[hW];exact(setRow_other (w1.alloc _) _ _ _ (by omega)).trans ((Bh _ _ _ (by omega)).trans K1.out)
 have g2:W.heap[b0+1+1]? =some (.cells #[.int .u32 0,.int .u32 0,.int .u32 0,.int .u32 0,.int .u32 0,.int .u32 0,.int .u32 0,.int .u32 0] 160 (0,0)):=by rw[hW];exact(setRow_other (w1.alloc _) _ _ _ (by omega)).trans ((Bh _ _ _ (by omega)).trans K2.out)
 have g3:W.heap[bv]? =some (.cells (qm .u32 M) 198 (0,0)):=by rw[hW,←hbv];exact setRow_heap _ _ _ _ _ _ (Wn _ _)
 have hB2:Below b0 w W:=by rw[hW];exact below_setRow (hB1.alloc (by omega) _) (by omega) _
 rw[hbv];clear hW hB1 hbv hsz K0 K1 K2;have HRW:=hid hRw;have HMW:=hid hMw;clear hRw hMw;have c10:=qa g1 0;go_wp2_with (first|((with_reducible show wpList _ _ _ (Oper.mk (some 18) _ _ _ _ _::_) _ _);refine wpList_load_row rfl 160 _ rfl b0 rfl _ _ _ _ g0 Tryz.underlying160 rfl (by rw[qg,HHW.out.1];kernel_rfl) ?_)|((with_reducible show wpList _ _ _ (Oper.mk (some 19) _ _ _ _ _::_) _ _);refine wpList_load_row rfl 198 _ rfl bv rfl _ _ _ _ g3 Tryz.underlying198 rfl (by rw[qg,HMW.out.1];kernel_rfl) ?_))
 refine(qe6 h M HHW.out HMW.out (lo:Nat) (by omega) (by have:=HLO.out;omega) last node _).mono ?_;rintro e w2 ⟨rfl,hb2⟩;rw[HR2.out];have j2:=qb g2 hb2;have hB3:Below b0 w w2:=hB2.trans (hb2.mono (by have:=(Ai g2).1;omega));clear g0 g1 g2 g3 hB2 hb2 c10;go_wp2_with ((with_reducible show wpList _ _ _ (Oper.mk none (Op.store 160 _ _) _ _ _ _::_) _ _);refine wpList_store_row rfl 160 _ _ rfl (b0+1+1) (qm .u32 R) rfl rfl 160 _ j2 (by rw[qg,HRW.out.1];kernel_rfl) (by rw[qg,HRW.out.1];rfl) qU ?_)
 exact Bp (results_cell_row rfl _ _ (b0+1+1) 160 _ _ _ rfl (setRow_heap _ _ _ _ _ _ j2) Tryz.underlying160 rfl (by rw[qg,HRW.out.1];kernel_rfl)) rfl ⟨rfl,by rw[hb0];exact below_setRow hB3 (by omega) _⟩
def Yd (h:List Int)(lo:Int)(hv:Value):Array Value:= #[.int .u64 (wd h 0),.int .u64 (wd h 1),.int .u64 (wd h 2),.int .u64 (wd h 3),.int .u64 (wd h 4),.int .u64 (wd h 5),.int .u64 (wd h 6),.int .u64 (wd h 7),.int .u64 lo,.int .u64 0,hv,.int .i64 128,.func (.func 88) #[] #[],.func (.func 89) #[] #[]]
def Yc (h:List Int)(lo:Int)(hv:Value):Array Value:= #[.int .u32 (wd h 0),.int .u32 (wd h 1),.int .u32 (wd h 2),.int .u32 (wd h 3),.int .u32 (wd h 4),.int .u32 (wd h 5),.int .u32 (wd h 6),.int .u32 (wd h 7),.int .u64 lo,.int .u64 0,hv,.int .i64 64,.func (.func 91) #[] #[],.func (.func 92) #[] #[]]
theorem qcz (bs:List Int)(v:Value)(w:World)(hH:Holds8 w v bs)(hz: ∀z∈bs,0≤z∧z≤255)(hl:bs.length=64):
  Calls Tryz.prog 72 #[.int .i64 1,v] w fun e w'=> ∃p,e= .returned (.iface 153 (.pointer (some ⟨p,0,none⟩)))∧w.heap.size≤p∧w'.heap[p]? =some (.cells (Yd (h0Z true bs) 0 (.slice none 0 0)) 159 (0,0))∧Below w.heap.size w w':=by
 obtain⟨H,hH0⟩:=Ex (h0Z true bs);have hHw:Words 64 8 H:=by rw[←hH0];exact Q7 true bs
 have hH1:yK .u64 IVb 8 bs=H:=by rw[←hH0];rfl
 rw[hH0];have HH1:=hid hH1;clear hH0 hH1;have HW:=hid hHw;clear hHw;go_enter Tryz.func72,Tryz.ntmps72
 go_wp2_with fail
 refine(qbW bs v _ hH hz hl).mono ?_;rintro e w1 ⟨rfl,hb1⟩;rw[HH1.out];clear hH hz hl;go_upto_region 3 with((with_reducible show wpList _ _ _ (Oper.mk none (Op.store 150 _ _) _ _ _ _::_) _ _);refine wpList_store_row rfl 150 _ _ rfl w1.heap.size (qm .u64 H) rfl rfl 150 _ (Wn _ _) (by rw[qg,HW.out.1];kernel_rfl) (by rw[qg,HW.out.1];rfl) qU ?_)
 refine qj ?_;intro W hW;obtain⟨bv,hbv⟩:=Ex w1.heap.size;have hs1:=hb1.size;have g3:W.heap[bv]? =some (.cells (qm .u64 H) 150 (0,0)):=by rw[hW,←hbv];exact setRow_heap _ _ _ _ _ _ (Wn _ _)
 have hB2:Below w.heap.size w W:=by rw[hW];exact below_setRow (hb1.alloc hs1 _) hs1 _
 rw[hbv];clear hW;rw[Zc HW.out]at g3;have hs2:=hB2.size;go_wp2_with (first|((with_reducible show wpList _ _ _ (Oper.mk (some 16) _ _ _ _ _::_) _ _);refine wpList_load_row rfl 150 _ rfl bv rfl _ _ _ _ g3 Tryz.underlying150 rfl (by kernel_rfl) ?_))
 go_ret
 exact⟨_,rfl,hs2,Wn _ _,hB2.alloc hs2 _⟩
theorem qbC (bs:List Int)(v:Value)(w:World)(hH:Holds8 w v bs)(hz: ∀z∈bs,0≤z∧z≤255)(hl:bs.length=32):
  Calls Tryz.prog 72 #[.int .i64 2,v] w fun e w'=> ∃p,e= .returned (.iface 163 (.pointer (some ⟨p,0,none⟩)))∧w.heap.size≤p∧w'.heap[p]? =some (.cells (Yc (h0Z false bs) 0 (.slice none 0 0)) 167 (0,0))∧Below w.heap.size w w':=by
 obtain⟨H,hH0⟩:=Ex (h0Z false bs);have hHw:Words 32 8 H:=by rw[←hH0];exact Q7 false bs
 have hH1:yK .u32 IVs 4 bs=H:=by rw[←hH0];rfl
 rw[hH0];have HH1:=hid hH1;clear hH0 hH1;have HW:=hid hHw;clear hHw;go_enter Tryz.func72,Tryz.ntmps72
 go_wp2_with fail
 refine(qbX bs v _ hH hz hl).mono ?_;rintro e w1 ⟨rfl,hb1⟩;rw[HH1.out];clear hH hz hl;go_upto_region 5 with((with_reducible show wpList _ _ _ (Oper.mk none (Op.store 160 _ _) _ _ _ _::_) _ _);refine wpList_store_row rfl 160 _ _ rfl w1.heap.size (qm .u32 H) rfl rfl 160 _ (Wn _ _) (by rw[qg,HW.out.1];kernel_rfl) (by rw[qg,HW.out.1];rfl) qU ?_)
 refine qj ?_;intro W hW;obtain⟨bv,hbv⟩:=Ex w1.heap.size;have hs1:=hb1.size;have g3:W.heap[bv]? =some (.cells (qm .u32 H) 160 (0,0)):=by rw[hW,←hbv];exact setRow_heap _ _ _ _ _ _ (Wn _ _)
 have hB2:Below w.heap.size w W:=by rw[hW];exact below_setRow (hb1.alloc hs1 _) hs1 _
 rw[hbv];clear hW;rw[Zc HW.out]at g3;have hs2:=hB2.size;go_wp2_with (first|((with_reducible show wpList _ _ _ (Oper.mk (some 25) _ _ _ _ _::_) _ _);refine wpList_load_row rfl 160 _ rfl bv rfl _ _ _ _ g3 Tryz.underlying160 rfl (by kernel_rfl) ?_))
 go_ret
 exact⟨_,rfl,hs2,Wn _ _,hB2.alloc hs2 _⟩
structure Spare (S:Nat→Prop)(w w':World):Prop where
 os:w'.os=w.os
 tape:w'.tape=w.tape
 output:w'.output=w.output
 size:w.heap.size≤w'.heap.size
 block: ∀k,k<w.heap.size→S k→w'.heap[k]? =w.heap[k]?
namespace Spare
variable {S T:Nat→Prop} {w w' w'':World}
theorem refl (S:Nat→Prop)(w:World):Spare S w w:=⟨rfl,rfl,rfl,Nat.le_refl _,fun _ _ _=>rfl⟩
theorem trans (h:Spare S w w')(k:Spare T w' w'')(hST: ∀b,b<w.heap.size→S b→T b):Spare S w w'':=
 ⟨k.os.trans h.os,k.tape.trans h.tape,k.output.trans h.output,Nat.le_trans h.size k.size,fun b hb hs=>(k.block b (Nat.lt_of_lt_of_le hb h.size) (hST b hb hs)).trans (h.block b hb hs)⟩
theorem of_below (S:Nat→Prop)(h:Below w.heap.size w w'):Spare S w w':=⟨h.os,h.tape,h.output,h.size,fun k hk _=>h.block k hk⟩
theorem below (h:Spare S w w'){B:Nat}(hB:B≤w.heap.size)(hS: ∀k,k<B→S k):Below B w w':=⟨h.os,h.tape,h.output,h.size,fun k hk=>h.block k (by omega) (hS k hk)⟩
theorem of_but {b:Nat}(h:But b w w'):Spare (fun k=>k≠b) w w':=⟨h.os,h.tape,h.output,h.size,fun k hk hs=>h.block k hk hs⟩
theorem of_grown {b:Option Nat}(h:w.grownBy w' b):Spare (fun k=>b≠some k) w w':=⟨h.os,h.tape,h.output,h.size,fun k hk hs=>h.block k hk (fun e=>hs e.symm)⟩
end Spare
def qW (big:Bool)(w:World)(p:Nat)(hv:Value)(h0 msg:List Int):Prop:=
 w.heap[p]? =some (.cells (cond big Yd Yc (stZ big h0 msg (nbk (bB big) msg.length)) ((bB big*nbk (bB big) msg.length:Nat):Int) hv) (cond big 159 167) (0,0))∧
 w.ownsRow 0 5 1 hv (Qj (bB big) msg).length ((Qj (bB big) msg).map qv)
def zE (p:Nat)(hv:Value):Nat→Prop:=fun k=>k≠p∧hv.ownBlock≠some k
theorem qaO (H:List Int)(lo:Int)(hv:Value): ∀j,j<2→(Yd H lo hv)[8+j]? =(#[.int .u64 lo,.int .u64 0]:Array Value)[j]? :=by
 intro j hj;rcases(show j=0∨j=1 by omega)with rfl|rfl<;>rfl
theorem qaN (H:List Int)(lo:Int)(hv:Value): ∀j,j<2→(Yc H lo hv)[8+j]? =(#[.int .u64 lo,.int .u64 0]:Array Value)[j]? :=by
 intro j hj;rcases(show j=0∨j=1 by omega)with rfl|rfl<;>rfl
theorem qej {H:List Int}(hH:Words 64 8 H)(lo:Int)(hv:Value): ∀j,j<(qm .u64 H).size→(Yd H lo hv)[0+j]? =(qm .u64 H)[j]? :=by
 rw[Zc hH];intro j hj;have hj:j<8:=hj;rcases(show j=0∨j=1∨j=2∨j=3∨j=4∨j=5∨j=6∨j=7 by omega)with rfl|rfl|rfl|rfl|rfl|rfl|rfl|rfl<;>rfl
theorem qei {H:List Int}(hH:Words 32 8 H)(lo:Int)(hv:Value): ∀j,j<(qm .u32 H).size→(Yc H lo hv)[0+j]? =(qm .u32 H)[j]? :=by
 rw[Zc hH];intro j hj;have hj:j<8:=hj;rcases(show j=0∨j=1∨j=2∨j=3∨j=4∨j=5∨j=6∨j=7 by omega)with rfl|rfl|rfl|rfl|rfl|rfl|rfl|rfl<;>rfl
theorem qck (H:List Int)(lo lo':Int)(hv:Value):Yh (Yd H lo hv) 8 #[.int .u64 lo',.int .u64 0]=Yd H lo' hv:=rfl
theorem qcj (H:List Int)(lo lo':Int)(hv:Value):Yh (Yc H lo hv) 8 #[.int .u64 lo',.int .u64 0]=Yc H lo' hv:=rfl
theorem qdr {H':List Int}(h:Words 64 8 H')(H:List Int)(lo:Int)(hv:Value):Yh (Yd H lo hv) 0 (qm .u64 H')=Yd H' lo hv:=by rw[Zc h];rfl
theorem qdq {H':List Int}(h:Words 32 8 H')(H:List Int)(lo:Int)(hv:Value):Yh (Yc H lo hv) 0 (qm .u32 H')=Yc H' lo hv:=by rw[Zc h];rfl
def qfa (big:Bool)(w0:World)(S:Nat→Prop)(p:Nat)(hv0:Value)(h0 msg:List Int)(W:World):Prop:=
 ∃H lo hl hv,W.heap[p]? =some (.cells (cond big Yd Yc H ((lo:Nat):Int) hv) (cond big 159 167) (0,0))∧W.ownsRow 0 5 1 hv hl.length (hl.map qv)∧hl.length<bB big∧qcB big h0 msg H lo hl∧
  (hv.ownBlock=hv0.ownBlock∨ ∀g,hv.ownBlock=some g→w0.heap.size≤g)∧Spare S w0 W
theorem But.of_setRow (w:World)(p:Nat)(cs:Array Value):But p w (w.setRow p cs):=⟨rfl,rfl,rfl,by simp,fun k _ hk=>setRow_other w p k cs hk⟩
def qbe:Value→Nat
 | .slice _ n _=>n
 | _=>0
theorem yu {W:World}{B n m:Nat}{e:TypeId}{a:Option Addr}{c:Nat}{xs:List Value}(h:W.ownsRow B e 1 (.slice a m c) n xs):m=n:=by
 rcases h.2 with⟨e1,e2⟩|⟨g,cap,cur,e1, -⟩
 ·simp only[Value.slice.injEq]at e1;omega
 ·simp only[Value.slice.injEq]at e1;exact e1.2.1
theorem yR {W W':World}{p:Nat}{v:Value}{n:Nat}{xs:List Value}{c:Array Value}{T:TypeId}{fr:Nat×Nat}(h:W.ownsRow 0 5 1 v n xs)(hb:But p W W')(hp:W.heap[p]? =some (.cells c T fr))(hT:T≠5):W'.ownsRow 0 5 1 v n xs:=by
 refine⟨h.1,?_⟩;rcases h.2 with h2|⟨g,cap,cur,e,h1,h2,h3⟩
 ·exact .inl h2
 ·refine .inr ⟨g,cap,cur,e,h1,?_,h3⟩;have hg:g<W.heap.size:=(Ai h2).1;rw[hb.block g hg ?_];exact h2;rintro rfl
  rw[hp]at h2;simp only[Option.some.injEq,Obj.cells.injEq]at h2;exact hT h2.2.1
theorem ZG {W:World}{a:Option Addr}{m c n:Nat}{xs:List Value}(h:W.ownsRow 0 5 1 (.slice a m c) n xs)(hn:n≠0): ∃g,a=some ⟨g,0,none⟩:=by
 rcases h.2 with⟨-,h2⟩|⟨g,cap,cur,e, -⟩
 ·exact absurd h2 hn
 ·simp only[Value.slice.injEq]at e;exact⟨g,e.1⟩
theorem qa7 {W:World}{g m c n:Nat}{xs:List Value}(h:W.ownsRow 0 5 1 (.slice (some ⟨g,0,none⟩) m c) n xs):W.ownsRow 0 5 1 (.slice (some ⟨g,0,none⟩) 0 c) 0 []:=by
 refine⟨rfl,?_⟩;rcases h.2 with⟨h2, -⟩|⟨g',cap,cur,e,h1,h2,h3,h4,h5,h6⟩
 ·simp at h2
 ·simp only[Value.slice.injEq,Option.some.injEq,Addr.mk.injEq,and_true,true_and]at e;obtain⟨rfl, -,rfl⟩:=e;exact .inr ⟨g,c,cur,rfl,h1,h2,Nat.zero_le _,h4,h5,rfl⟩
theorem qca {W:World}{p:Nat}{v:Value}{n:Nat}{xs:List Value}{c:Array Value}{T:TypeId}{fr:Nat×Nat}(h:W.ownsRow 0 5 1 v n xs)(hp:W.heap[p]? =some (.cells c T fr))(hT:T≠5):some p≠v.ownBlock:=by
 rcases h.2 with⟨rfl, -⟩|⟨g,cap,cur,rfl,h1,h2,h3⟩
 ·intro e;cases e
 ·intro e;simp only[Value.ownBlock,Option.some.injEq]at e;subst e;rw[hp]at h2;simp only[Option.some.injEq,Obj.cells.injEq]at h2;exact hT h2.2.1
theorem qad {w:World}{a:Option Addr}{n c k:Nat}{zs:List Int}(h:Hold w (.slice a n c) zs)(hk:k≤zs.length):Hold w (.slice a k c) (zs.take k):=by
 refine⟨fun z hz=>h.1 z (List.mem_of_mem_take hz),?_⟩;rcases h.2 with⟨rfl,e⟩|⟨ad,cap,e,h1,h2,h3⟩
 ·simp only[Value.slice.injEq]at e;obtain⟨rfl, -,rfl⟩:=e;obtain rfl:k=0:=by simpa using hk
  exact .inl ⟨rfl,rfl⟩
 ·simp only[Value.slice.injEq]at e;obtain⟨rfl, -,rfl⟩:=e;refine .inr ⟨ad,c,by simp[List.length_take,Nat.min_eq_left hk],by simp;omega,h2,?_⟩;rcases h3 with h3|⟨b,off,rfl,h3,h4⟩
  ·exact .inl (by rw[h3];simp)
  ·refine .inr ⟨b,off,rfl,h3,fun i hi=>?_⟩;have hik:i<k:=by simp at hi;omega
   rw[h4 i (by omega)];simp[qp,Lg,hik]
theorem YO {w W6 W1:World}{b v:Value}{zs bs:List Int}{S:Nat→Prop}(h:Hold W1 b zs)(hv:Hold w v bs)(hob:b.ownBlock=v.ownBlock)(h1:Spare S w W1)(h6:Spare S w W6)(hS: ∀k,v.ownBlock=some k→S k)(hne:bs≠[]):Hold W6 b zs:=by
 refine⟨h.1,?_⟩;rcases h.2 with h2|⟨ad,cap,rfl,h3,h4,h5⟩
 ·exact .inl h2
 ·refine .inr ⟨ad,cap,rfl,h3,h4,?_⟩;rcases h5 with h5|⟨bb,off,rfl,h5,h7⟩
  ·exact .inl h5
  ·have hb:v.ownBlock=some bb:=hob.symm;rcases hv.2 with⟨h8, -⟩|⟨ad',cap',rfl, -, -,h8⟩
   ·exact absurd h8 hne
   obtain⟨b8,o8,rfl,h8, -⟩:=h8.resolve_left hne;obtain rfl:b8=bb:=by simpa [Value.ownBlock] using hb
   have hlt:b8<w.heap.size:=h8;refine .inr ⟨b8,off,rfl,Nat.lt_of_lt_of_le hlt h6.size,fun i hi=>?_⟩;have e1:W6.heap[b8]? =W1.heap[b8]? :=(h6.block b8 hlt (hS b8 hb)).trans (h1.block b8 hlt (hS b8 hb)).symm;rw[←h7 i hi];exact World.cell?_of_block e1
theorem Z7 {w:World}{a:Option Addr}{n c:Nat}{zs:List Int}(h:Hold w (.slice a n c) zs)(hne:zs≠[]): ∃b off,a=some ⟨b,off,none⟩:=by
 rcases h.2 with⟨h2, -⟩|⟨ad,cap,e, -, -,h3⟩
 ·exact absurd h2 hne
 ·obtain⟨b,off,rfl, -⟩:=h3.resolve_left hne;simp only[Value.slice.injEq]at e;exact⟨b,off,e.1⟩
theorem zP {w:World}{a a':Option Addr}{n c k n' c':Nat}{zs:List Int}(h:Hold w (.slice a n c) zs)(hk:k≤zs.length)(hn:n'=zs.length - k)(hc:c'=c - k)(b off:Nat)(ha:a=some ⟨b,off,none⟩)(ha':a'=some ⟨b,off+k,none⟩∨a'=a∧c=k):Hold w (.slice a' n' c') (zs.drop k):=by
 subst ha;refine⟨fun z hz=>h.1 z (List.mem_of_mem_drop hz),?_⟩;rcases h.2 with⟨rfl,e⟩|⟨ad,cap,e,h1,h2,h3⟩
 ·simp at e
 ·simp only[Value.slice.injEq,Option.some.injEq]at e;obtain⟨rfl, -,rfl⟩:=e;rcases ha' with rfl|⟨rfl,hck⟩
  ·refine .inr ⟨⟨b,off+k,none⟩,c',by simp[hn],by simp;omega,by omega,?_⟩;rcases h3 with rfl|⟨b',off',e,h3,h4⟩
   ·exact .inl (by simp)
   ·simp only[Addr.mk.injEq,and_true]at e;obtain⟨rfl,rfl⟩:=e;refine .inr ⟨b,off+k,rfl,h3,fun i hi=>?_⟩;have hi':k+i<zs.length:=by simp at hi;omega
    have:=h4 (k+i) hi'
    rw[←Nat.add_assoc]at this;rw[this];simp[qp,Lg]
  ·refine .inr ⟨⟨b,off,none⟩,c',by simp[hn],by simp;omega,by omega,.inl ?_⟩;exact List.drop_of_length_le (by omega)
theorem jU (h0 msg bs:List Int)(hh:Words 64 8 h0)(hm: ∀z∈msg,0≤z∧z≤255)(p:Nat)(hv v:Value)(w:World)(hE:qW true w p hv h0 msg)(hH:Hold w v bs)(hF:bs≠[]→ ∀b,v.ownBlock=some b→zE p hv b)(hlen:(msg.length:Int)+bs.length≤140737488355328):
  Calls Tryz.prog 200 #[.pointer (some ⟨p,0,none⟩),v] w fun e w'=>e= .returned (.tuple #[])∧(∃hv',qW true w' p hv' h0 (msg++bs)∧(hv'.ownBlock=hv.ownBlock∨ ∀g,hv'.ownBlock=some g→w.heap.size≤g))∧Spare (zE p hv) w w':=by
 obtain⟨i0,hi,hz0,hz1,hz2⟩:=info_parts QH;have hps:p<w.heap.size:=(Ai hE.1).1;have HHh:=hid hh;have HHm:=hid hm;have HE:=hid hE;have HH:=hid hH;have HF:=hid hF;have hzb:=hH.1;have HZ:=hid hzb;clear hh hm hE hH hF hzb;obtain⟨S,hS⟩:=Ex (zE p hv);have HS:=hid hS;rw[hS];clear hS;go_enter Tryz.func200,Tryz.ntmps200
 go_wp2_with fail
 go_loopw [1] (fun b wr=> ∃j:Nat,j≤bs.length∧Hold wr b (bs.drop j)∧b.ownBlock=v.ownBlock∧(∃hv',qW true wr p hv' h0 (msg++bs.take j)∧(hv'.ownBlock=hv.ownBlock∨ ∀g,hv'.ownBlock=some g→w.heap.size≤g))∧Spare S w wr) (fun b _=>qbe b)
 case atStart=>exact⟨0,Nat.zero_le _,by simpa using HH.out,rfl,⟨hv,by simpa using HE.out,.inl rfl⟩,Spare.refl _ _⟩
 case round=>
  obtain⟨j,hj,hHb,hob,⟨hv1,hE1,hown1⟩,hsp⟩:=hrel;have HHb:=hid hHb;have HSP:=hid hsp;have HE1:=hid hE1;have HOB:=hid hob;have HOW:=hid hown1;obtain⟨ab,cb,rfl,hcb1,hcb2⟩:=hHb.slice;clear hHb hsp hE1 hob hown1;by_cases hlt:j<bs.length
  case neg=>
   obtain rfl:j=bs.length:=by omega
   have hk1:(bs.drop bs.length).length=0:=by simp
   rw[hk1]at*;go_wp2
   go_end0
   have h1:=HE1.out;rw[List.take_length]at h1;exact⟨rfl,⟨hv1,h1,HOW.out⟩,HSP.out⟩
  have hdl:(bs.drop j).length=bs.length - j:=by simp
  have hl1:0<(bs.drop j).length:=by omega
  have hl2:((bs.drop j).length:Int)≤140737488355328:=by omega
  obtain⟨m1,hm1⟩:=Ex (msg++bs.take j);have hml:m1.length≤140737488355328:=by rw[←hm1];simp;omega
  have hmz: ∀z∈m1,0≤z∧z≤255:=by
   rw[←hm1];intro z hz;rcases List.mem_append.1 hz with hz|hz
   ·exact HHm.out z hz
   ·exact HZ.out z (List.mem_of_mem_take hz)
  have HMZ:=hid hmz;have HDL:=hid hdl;have hE2:=HE1.out;rw[hm1]at hE2;have HM1:=hid hm1;obtain⟨N,hN⟩:=Ex ((bs.drop j).length);rw[hN]at hl1 hl2 hcb1⊢;have HN:=hid hN;have hsum:=ZN (yg true) m1;have hnx:=J6 true h0 m1;have hnf:=J7 true h0 m1;have hhl:=zn (yg true) m1;have hhz:=yV (n:=bB true) hmz;have hst:=Yy true HHh.out m1 (nbk (bB true) m1.length);obtain⟨hrow,hown⟩:=hE2;simp only[cond]at hrow;generalize stZ true h0 m1 (nbk (bB true) m1.length)=H1 at*;generalize bB true*nbk (bB true) m1.length=lo1 at*;generalize Qj (bB true) m1=hl at*;rw[show bB true=128 from rfl]at hnf hhl;obtain⟨a1,n1,c1,rfl⟩:=qs hown;have hn1:n1=hl.length:=yu hown;subst hn1;have HNX:=hid hnx;have HNF:=hid hnf;have HSUM:=hid hsum;have HHZ:=hid hhz;have HST:=hid hst;have HROW:=hid hrow;have HOWN:=hid hown;have c10:wr.cell? ⟨p,10,none⟩=some (.slice a1 hl.length c1):=qa hrow 10;have c11:wr.cell? ⟨p,11,none⟩=some (.int .i64 128):=qa hrow 11;have f10:=frozen_of_row wr p 10 _ _ hrow;have f11:=frozen_of_row wr p 11 _ _ hrow;clear hrow hown hst hhz hsum hnf hnx hm1 hmz hdl hN;go_upto_region 1 with(fail)
  obtain⟨tb,htb⟩: ∃tb,((hl.length:Int)==128)=tb:=⟨_,rfl⟩;go_quiet (fail)
  go_upto_if 17 with(fail)
  go_cut [1] from 4 (fun b W=>b= .slice ab N cb∧qfa true w S p hv h0 m1 W)
  case first=>
   have hb2:Below wr.heap.size wr (wr.drewN nq):=Qq nq;have hrow2:=qb HROW.out hb2;have hown2:=qf HOWN.out (fun g _ hg=>hb2.block g hg);have hsp2:Spare S w (wr.drewN nq):=HSP.out.trans (Spare.of_below S hb2) (fun _ _ h=>h);clear hb2 c10 c11 f10 f11;generalize wr.drewN nq=W2 at*
   cases tb
   case false=>
    have HT:=hid htb;clear htb;go_wp2
    go_meet
    case rel=>exact⟨rfl,H1,lo1,hl,_,hrow2,hown2,by have:=beq_eq_false_iff_ne.1 HT.out;show hl.length<128;omega,HNX.out,HOW.out,hsp2⟩
   have hfull:hl.length=128:=by have:=eq_of_beq htb;omega
   clear htb;have HFU:=hid hfull;have hNF:=HNF.out hfull;have hlo:lo1+128<9223372036854775808:=by have:=HSUM.out;omega
   have HLO:=hid hlo;rw[hfull]at hrow2;clear hfull hhl HNF;have HNF:=hid hNF;have HR2:=hid hrow2;have HO2:=hid hown2;have HS2:=hid hsp2;clear hNF hrow2 hown2 hsp2 hlo;have hps2:p<W2.heap.size:=(Ai HR2.out).1;go_upto_region 2 with(fail)
   refine Ql (fun f W=>(f=false→Below W2.heap.size W2 W)∧(f=true→W.heap[p]? =some (.cells (Yd H1 ((lo1+128:Nat):Int) (.slice a1 128 c1)) 159 (0,0))∧But p W2 W)) 16 [.v 19 (.pointer (some ⟨p,0,none⟩)),.v 20 (.pointer (some ⟨p,0,none⟩)),.v 21 (.pointer (some ⟨p,0,none⟩)),.v 22 (.pointer (some ⟨p,8,none⟩)),.v 23 (.agg #[.int .u64 (lo1:Nat),.int .u64 0]),.v 24 (.pointer (some ⟨p,0,none⟩)),.v 25 (.pointer (some ⟨p,0,none⟩)),.v 26 (.pointer (some ⟨p,11,none⟩)),.v 27 (.int .i64 128),.v 28 (.int .u64 128),.v 29 (.tuple #[.agg #[.int .u64 ((lo1+128:Nat):Int),.int .u64 0],.bool false]),.v 18 (.tuple #[.agg #[.int .u64 ((lo1+128:Nat):Int),.int .u64 0],.bool false]),.v 30 (.agg #[.int .u64 ((lo1+128:Nat):Int),.int .u64 0]),.v 31 (.bool false),.v 32 (.pointer (some ⟨p,0,none⟩)),.v 33 (.pointer (some ⟨p,8,none⟩)),.f none [] (fun _ _=>True)] (by exact⟨fun _ _ _ _ h=>h,trivial⟩) ⟨fun _=>Br.drew,fun h=>(by cases h)⟩ (fun f W W' h hb=>⟨fun e=>(h.1 e).trans (hb.mono (h.1 e).size),fun e=>⟨qb (h.2 e).1 hb,(h.2 e).2.trans (But.of_below hb)⟩⟩) ?_ ?_ ?_
   ·repeat' (with_reducible first|exact qt|refine qn ?_ ?_)
    all_goals try
     refine .inr ?_;intro A x W f hA hR hf hdep D K hK;have a0:=hA.2 0 (by decide);conv at a0=>rhs;whnf
     simp only[QI,QU]at D;clear hdep hA;go_simp
     exact hK _ _ BR rfl
    any_goals exact .inl rfl
    all_goals refine .inr ?_
    ·intro A x W f hA hR hf hdep _ K hK;have g22:=gw hA hdep 3 22;clear hdep hA;have hf0:f=false:=hf (by kernel_rfl);have g0:=qb HR2.out (hR.1 hf0);refine qF 157 _ rfl p 8 g22 159 _ #[.int .u64 (lo1:Nat),.int .u64 0] (0,0) _ g0 Tryz.underlying157 rfl (by kernel_rfl) (qaO _ _ _) (hK _ _ Br rfl)
    ·intro A x W f hA hR hf hdep _ K hK;have g26:=gw hA hdep 7 26;clear hdep hA;have hf0:f=false:=hf (by kernel_rfl);have g0:=qb HR2.out (hR.1 hf0);have c0:W.cell? ⟨p,11,none⟩=some (.int .i64 128):=qa g0 11;go_simp
     exact hK _ _ BR rfl
    ·intro A x W f hA hR hf hdep _ K hK;have g23:=gw hA hdep 4 23;have g28:=gw hA hdep 9 28;clear hdep hA;go_simp
     refine(qaU lo1 128 HLO.out _).mono ?_;rintro e w' ⟨rfl,hb⟩;exact hK _ _ hb rfl
   ·intro A x W hA hR hdep K hK;have g33:=gw hA hdep 15 33;have g30:=gw hA hdep 12 30;clear hdep hA;have g0:=qb HR2.out (hR.1 rfl);refine Yr 157 _ _ rfl p 8 #[.int .u64 ((lo1+128:Nat):Int),.int .u64 0] g33 g30 159 _ g0 (by kernel_rfl) (by simp[Yd]) (by simp[Value.oneCell']) ?_;rw[qck];refine hK _ _ (fun _=>rfl) ⟨fun h=>(by cases h),fun _=>⟨setRow_heap _ _ _ _ _ _ g0,(But.of_below (hR.1 rfl)).trans (But.of_setRow _ _ _)⟩⟩ ⟨.inr (fun _ h=>h),.inr (fun _ h=>h),.inr (fun _ h=>h),.inr (fun _ h=>h),.inr (fun _ h=>h),.inr (fun _ h=>h),.inr (fun _ h=>h),.inr (fun _ h=>h),.inr (fun _ h=>h),.inr (fun _ h=>h),.inr (fun _ h=>h),.inr (fun _ h=>h),.inr (fun _ h=>h),.inr (fun _ h=>h),.inr (fun _ h=>h),.inr (fun _ h=>h),.inl rfl,trivial⟩ trivial
   intro x W hR hall;obtain⟨es16, -⟩:=hall;simp only[Qi,Act.put,Ls];obtain⟨hr3,hb3⟩:=hR.2 rfl;have hs3:=hb3.size;have ho3:W.ownsRow 0 5 1 (.slice a1 128 c1) 128 (hl.map qv):=by
    have h1:=HO2.out;rw[HFU.out]at h1;exact yR h1 hb3 HR2.out (by decide)
   have hsp3:Spare S w W:=HS2.out.trans (Spare.of_but hb3) (fun b _ hb=>by have h2:=HS.out;subst h2;exact hb.1);have hH3:Holds8 W (.slice a1 128 c1) hl:=Ya ho3;have HR3:=hid hr3;have HO3:=hid ho3;have HS3:=hid hsp3;have HH3:=hid hH3;clear es16 hR hr3 hb3 ho3 hsp3 hH3 x HR2 HO2 HS2 hs3 hps2;generalize W=W3 at*;clear W2;go_upto_region 3 with(fail)
   obtain⟨H2,hH2⟩:=Ex (Ym true H1 hl ((lo1+128:Nat):Int) false false);have hw2:Words 64 8 H2:=by rw[←hH2];exact QP true HST.out _ _ _ _
   have hMX:=qbc H1 hl HST.out (.slice a1 128 c1) (lo1+128) (by have:=HLO.out;omega) false false;have hnf2:=HNF.out;rw[hH2]at hMX hnf2;have HMX:=hid hMX;have HNF2:=hid hnf2;have HW2:=hid hw2;clear hMX hH2 hnf2 hw2 HNF;have hps3:p<W3.heap.size:=(Ai HR3.out).1;refine qA (n:=18) (w0:=W3) (B:=W3.heap.size) [.v 34 (.pointer (some ⟨p,0,none⟩)),.v 35 (.pointer (some ⟨p,0,none⟩)),.v 36 (.pointer (some ⟨p,0,none⟩)),.v 37 (.pointer (some ⟨p,12,none⟩)),.v 38 (.func (.func 88) #[] #[]),.v 39 (.pointer (some ⟨p,0,none⟩)),.v 40 (.pointer (some ⟨p,0,none⟩)),.v 41 (.pointer (some ⟨p,0,none⟩)),.v 42 (.agg (qm .u64 H1)),.v 43 (.pointer (some ⟨p,0,none⟩)),.v 44 (.pointer (some ⟨p,0,none⟩)),.v 45 (.pointer (some ⟨p,10,none⟩)),.v 46 (.slice a1 128 c1),.v 47 (.pointer (some ⟨p,0,none⟩)),.v 48 (.pointer (some ⟨p,0,none⟩)),.v 49 (.pointer (some ⟨p,8,none⟩)),.v 50 (.agg #[.int .u64 ((lo1+128:Nat):Int),.int .u64 0]),.v 51 (.agg (qm .u64 H2))] trivial Br.drew Nl ?_ ?_
   ·repeat' (with_reducible first|exact qt|refine qn ?_ ?_)
    all_goals try
     intro A x W hA hW hBW hdep D K hK;have a0:=hA.2 0 (by decide);conv at a0=>rhs;whnf
     simp only[QI,QU]at D;clear hdep hA;go_simp
     exact hK _ _ BR rfl
    ·intro A x W hA hW hBW hdep _ K hK;have g37:=gv hA hdep 3 37;clear hdep hA;have g0:=qb HR3.out hW;have c0:W.cell? ⟨p,12,none⟩=some (.func (.func 88) #[] #[]):=qa g0 12;go_simp
     exact hK _ _ BR rfl
    ·intro A x W hA hW hBW hdep _ K hK;have g41:=gv hA hdep 7 41;clear hdep hA;have g0:=qb HR3.out hW;refine qF 150 _ rfl p 0 g41 159 _ (qm .u64 H1) (0,0) _ g0 Tryz.underlying150 rfl (by rw[qg,HST.out.1];kernel_rfl) (qej HST.out _ _) (hK _ _ Br rfl)
    ·intro A x W hA hW hBW hdep _ K hK;have g45:=gv hA hdep 11 45;clear hdep hA;have g0:=qb HR3.out hW;have c0:W.cell? ⟨p,10,none⟩=some (.slice a1 128 c1):=qa g0 10;go_simp
     exact hK _ _ BR rfl
    ·intro A x W hA hW hBW hdep _ K hK;have g49:=gv hA hdep 15 49;clear hdep hA;have g0:=qb HR3.out hW;refine qF 157 _ rfl p 8 g49 159 _ #[.int .u64 ((lo1+128:Nat):Int),.int .u64 0] (0,0) _ g0 Tryz.underlying157 rfl (by kernel_rfl) (qaO _ _ _) (hK _ _ Br rfl)
    ·intro A x W hA hW hBW hdep _ K hK;have g38:=gv hA hdep 4 38;have g42:=gv hA hdep 8 42;have g46:=gv hA hdep 12 46;have g50:=gv hA hdep 16 50;clear hdep hA;go_simp
     refine(HMX.out _ (HH3.out.mono_below hW Nl) HHZ.out HFU.out).mono ?_;rintro e w' ⟨rfl,hb⟩;exact hK _ _ hb rfl
   intro x W hW hBW hall;clear hall;refine qh ?_;simp only[Qi,Act.put,Ls];have hr4:=qb HR3.out hW;have hb4:But p W3 W:=But.of_below hW;clear hW hBW x;go_wp2_with fail
   refine qh ?_;go_wp2_with fail
   refine qh ?_;refine Yf rfl 150 _ _ rfl p 0 (qm .u64 H2) rfl rfl 159 _ hr4 (by rw[qg,HW2.out.1];kernel_rfl) (by rw[qg,HW2.out.1];simp[Yd]) qU ?_;rw[qdr HW2.out];refine qo ?_;have hr5:=setRow_heap W p _ (Yd H2 ((lo1+128:Nat):Int) (.slice a1 128 c1)) _ _ hr4;have hb5:=hb4.trans (But.of_setRow W p (Yd H2 ((lo1+128:Nat):Int) (.slice a1 128 c1)));generalize W.setRow p (Yd H2 ((lo1+128:Nat):Int) (.slice a1 128 c1))=W5 at*;have ho5:=yR HO3.out hb5 HR3.out (by decide);have hsp5:Spare S w W5:=HS3.out.trans (Spare.of_but hb5) (fun b _ hb=>by have h2:=HS.out;subst h2;exact hb.1);have HO5:=hid ho5;have HS5:=hid hsp5;have HR5:=hid hr5;clear hr4 hb4 hb5 ho5 hsp5 HMX HO3 HS3 HR3 HH3 W hps3 W3;obtain⟨g1,rfl⟩:=ZG HO5.out (by decide);obtain⟨cu, -, -, -, -,hk1,hk2⟩:=zL HO5.out;have hk3:(c1:Int)≤9223372036854775807:=by unfold maxLen at hk2;omega
   have hk4:128≤(c1:Int):=by omega
   have c10:W5.cell? ⟨p,10,none⟩=some (.slice (some ⟨g1,0,none⟩) 128 c1):=qa hr5 10;have f10:=frozen_of_row W5 p 10 _ _ hr5;have hps5:p<W5.heap.size:=(Ai hr5).1;clear hr5 hk2;go_wp2
   go_meet
   case rel=>
    have hb6:But p W5 (W5.setCell ⟨p,10,none⟩ (.slice (some ⟨g1,0,none⟩) 0 c1)):=(But.refl p W5).set 10 _;exact⟨rfl,H2,lo1+128,[],.slice (some ⟨g1,0,none⟩) 0 c1,heap_setCell_same W5 p 10 _ _ _ HR5.out,qa7 (yR HO5.out hb6 HR5.out (by decide)),by show 0<128;decide,HNF2.out,HOW.out,HS5.out.trans (Spare.of_but hb6) (fun b _ hb=>by have h2:=HS.out;subst h2;exact hb.1)⟩
  case rest=>
   clear c10 c11 f10 f11 htb tb nq HROW HOWN HST HHZ HSUM HNF HNX hhl HE1;obtain⟨rfl,H2,lo2,hl2,hv2,hr2,ho2,hlt2,hnx2,how2,hsp2⟩:=hcut;have HSPR:=HSP;clear HOW HSP;simp only[cond]at hr2;have hlt2':hl2.length<128:=hlt2;obtain⟨a2,n2,c2,rfl⟩:=qs ho2;obtain rfl:n2=hl2.length:=yu ho2;obtain⟨k,hk⟩:=Ex (min N (128 - hl2.length));have HK:=hid hk;have HR2:=hid hr2;have HO2:=hid ho2;have HNX:=hid hnx2;have HOW:=hid how2;have HSP:=hid hsp2;clear hk ho2 hnx2 how2 hsp2 hlt2;have c10:wc.cell? ⟨p,10,none⟩=some (.slice a2 hl2.length c2):=qa hr2 10;have c11:wc.cell? ⟨p,11,none⟩=some (.int .i64 128):=qa hr2 11;have hpc:p<wc.heap.size:=(Ai hr2).1;clear hr2;go_upto_region 5 with(fail)
   go_quiet (fail)
   rw[show min (N:Int) (128 - (hl2.length:Int))=(k:Int) from by have:=HK.out;omega];have hb6:Below wc.heap.size wc (wc.drewN nq):=Qq nq;have hr6:=qb HR2.out hb6;have ho6:=qf HO2.out (fun g _ hg=>hb6.block g hg);have hsp6:Spare S w (wc.drewN nq):=HSP.out.trans (Spare.of_below S hb6) (fun _ _ h=>h);clear hb6 c10 c11 HR2 HO2 HSP hpc;generalize wc.drewN nq=W6 at*;clear wc;have hH6:Hold W6 (.slice ab N cb) (bs.drop j):=by
    have h1:=HH.out;have h2:=HHb.out;have h3:=HOB.out;rw[HN.out]at h2 h3;exact YO h2 HH.out h3 HSPR.out hsp6 (fun b hb=>by have h4:=HS.out;subst h4;exact HF.out (fun e=>by rw[e]at hlt;simp at hlt) b hb) (fun e=>by rw[e]at hlt;simp at hlt)
   obtain⟨X,hX⟩:=Ex ((bs.drop j).take k);have hk1:1≤k∧k≤N∧hl2.length+k≤128:=by have:=HK.out;omega
   have hXl:X.length=k:=by rw[←hX,List.length_take,HN.out];omega
   have hX6:Hold W6 (.slice ab k cb) X:=by rw[←hX];exact qad hH6 (by rw[HN.out];omega)
   have hs6:=hX6.src;rw[hXl]at hs6;have HX:=hid hX;have HXL:=hid hXl;have HX6:=hid hX6;have HS6:=hid hs6;have HH6:=hid hH6;have HR6:=hid hr6;have HO6:=hid ho6;have HSP6:=hid hsp6;have hps6:p<W6.heap.size:=(Ai hr6).1;obtain⟨hk1,hk2,hk3⟩:=hk1;have hk4:(k:Int)≤N∧(k:Int)≤cb∧1≤(k:Int):=by omega
   obtain⟨hk4,hk5,hk6⟩:=hk4;clear hX hXl hX6 hs6 hH6 hr6 ho6 hsp6;go_upto_region 6 with(fail)
   refine Ys (n:=9) (fun f W=>(f=false→Below W6.heap.size W6 W)∧(f=true→W.heap[p]? =some (.cells (Yd H2 ((lo2:Nat):Int) (.slice a2 hl2.length c2)) 159 (0,0))∧Spare (fun b=>(Value.slice a2 hl2.length c2).ownBlock≠some b) W6 W)) 8 [.v 75 (.pointer (some ⟨p,0,none⟩)),.v 76 (.pointer (some ⟨p,0,none⟩)),.v 77 (.pointer (some ⟨p,0,none⟩)),.v 78 (.pointer (some ⟨p,10,none⟩)),.v 79 (.slice a2 hl2.length c2),.v 80 (.slice ab N cb),.v 81 (.int .i64 (k:Nat)),.v 82 (.slice ab k cb),.p 83 (fun u W=>W.ownsRow 0 5 1 u (hl2.length+k) ((hl2++X).map qv)∧(u.ownBlock=(Value.slice a2 hl2.length c2).ownBlock∨ ∀g,u.ownBlock=some g→W6.heap.size≤g))] (by exact⟨(fun W W' hb u h=>⟨qf h.1 (fun g _ hg=>hb.block g hg),h.2⟩),trivial⟩) ⟨fun _=>Br.drew,fun h=>(by cases h)⟩ (fun f W W' h hb=>⟨fun e=>(h.1 e).trans (hb.mono (h.1 e).size),fun e=>⟨qb (h.2 e).1 hb,(h.2 e).2.trans (Spare.of_below _ hb) (fun _ _ h=>h)⟩⟩) ?_ ?_ ?_
   ·repeat' (with_reducible first|exact qt|refine qn ?_ ?_)
    all_goals try
     refine .inr ?_;intro A x W f hA hR hf hdep D K hK;have a0:=hA.2 0 (by decide);conv at a0=>rhs;whnf
     have a1:=hA.2 1 (by decide);conv at a1=>rhs;whnf
     have a4:=hA.2 4 (by decide);conv at a4=>rhs;whnf
     simp only[QI,QU]at D;clear hdep hA;go_simp
     exact hK _ _ BR rfl
    any_goals exact .inl rfl
    all_goals refine .inr ?_
    ·intro A x W f hA hR hf hdep _ K hK;have g78:=gw hA hdep 3 78;clear hdep hA;have hf0:f=false:=hf (by kernel_rfl);have g0:=qb HR6.out (hR.1 hf0);have c0:W.cell? ⟨p,10,none⟩=some (.slice a2 hl2.length c2):=qa g0 10;go_simp
     exact hK _ _ BR rfl
   ·intro A x W hA hR hdep K hK;have g79:=gw hA hdep 4 79;have g82:=gw hA hdep 7 82;clear hdep hA;have hB:=hR.1 rfl;have ho:=qf HO6.out (fun g _ hg=>hB.block g hg);have g0:=qb HR6.out hB;refine Y5 _ _ 24 rfl 0 5 i0 (.int .u8 0) 1 Tryz.underlying24 hi hz0 hz1 hz2 rfl (.slice a2 hl2.length c2) hl2.length (hl2.map qv) g79 ho (.slice ab k cb) k (X.map qv) g82 (HS6.out.below hB) (by unfold maxLen;omega) (by omega) (Nat.zero_le _) ?_;intro v' w' h1 h2 h3;have h4:w'.heap[p]? =some (.cells (Yd H2 ((lo2:Nat):Int) (.slice a2 hl2.length c2)) 159 (0,0)):=(h2.block p (Ai g0).1 (qca ho g0 (by decide))).trans g0;rw[←List.map_append]at h1;refine hK v' w' (fun h=>by cases h) ⟨fun h=>(by cases h),fun _=>⟨h4,(Spare.of_below _ hB).trans (Spare.of_grown h2) (fun _ _ h=>h)⟩⟩ ⟨.inr (fun _ h=>h),.inr (fun _ h=>h),.inr (fun _ h=>h),.inr (fun _ h=>h),.inr (fun _ h=>h),.inr (fun _ h=>h),.inr (fun _ h=>h),.inr (fun _ h=>h),.inl rfl,trivial⟩ ⟨h1,?_⟩;rcases h3 with h3|h3
    ·exact .inl h3
    ·refine .inr fun g hg=>?_
     rw[h3]at hg;cases hg;exact hB.size
   intro x W hR hall;obtain⟨e83, -⟩:=hall;change ((fun u W=>W.ownsRow 0 5 1 u (hl2.length+k) ((hl2++X).map qv)∧(u.ownBlock=(Value.slice a2 hl2.length c2).ownBlock∨ ∀g,u.ownBlock=some g→W6.heap.size≤g))) (x 83) W at e83
   obtain⟨hr7,hsp7⟩:=hR.2 rfl;obtain⟨ho7,how7⟩:=e83;obtain⟨a3,n3,c3,e83⟩:=qs ho7;rw[e83]at ho7 how7;obtain rfl:n3=hl2.length+k:=yu ho7;refine qh ?_;simp only[Qi,Act.put,Ls,e83];clear e83;have c10:W.cell? ⟨p,10,none⟩=some (.slice a2 hl2.length c2):=qa hr7 10;have f10:=frozen_of_row W p 10 _ _ hr7;have hps7:p<W.heap.size:=(Ai hr7).1;have HR7:=hid hr7;have HO7:=hid ho7;have HW7:=hid how7;have HSP7:=hid hsp7;clear hr7 ho7 how7 hsp7 hR;go_wp2_with fail
   refine qh ?_;go_wp2_with fail
   refine qh ?_;go_wp2_with fail
   refine qo ?_;obtain⟨bb,ob,rfl⟩:=Z7 HH6.out (fun e=>by have:=HN.out;rw[e]at this;simp at this;omega);have hb8:But p W (W.setCell ⟨p,10,none⟩ (.slice a3 (hl2.length+k) c3)):=(But.refl p W).set 10 _;have HR8:=hid (heap_setCell_same W p 10 _ _ (.slice a3 (hl2.length+k) c3) HR7.out);have HO8:=hid (yR HO7.out hb8 HR7.out (by decide));have hsp8:Spare S w (W.setCell ⟨p,10,none⟩ (.slice a3 (hl2.length+k) c3)):=by
    refine(HSP6.out.trans HSP7.out ?_).trans (Spare.of_but hb8) (fun b _ hb=>by have h2:=HS.out;subst h2;exact hb.1);intro b hb1 hb2;have h2:=HS.out;subst h2;rcases HOW.out with h3|h3
    ·rw[h3];exact hb2.2
    ·intro e;have:=h3 b e;omega
   have hH8:Hold (W.setCell ⟨p,10,none⟩ (.slice a3 (hl2.length+k) c3)) (.slice (some ⟨bb,ob,none⟩) N cb) (bs.drop j):=by
    have h3:=HOB.out;exact YO HH6.out HH.out h3 HSP6.out hsp8 (fun b hb=>by have h4:=HS.out;subst h4;exact HF.out (fun e=>by rw[e]at hlt;simp at hlt) b hb) (fun e=>by rw[e]at hlt;simp at hlt)
   have HSP8:=hid hsp8;have HH8:=hid hH8;clear hb8 hsp8 hH8 c10 f10 hps7;have hs86:W6.heap.size≤(W.setCell ⟨p,10,none⟩ (.slice a3 (hl2.length+k) c3)).heap.size:=by have:=HSP7.out.size;simpa [World.setCell] using this
   generalize W.setCell ⟨p,10,none⟩ (.slice a3 (hl2.length+k) c3)=W8 at*;have hjk:j+k≤bs.length:=by have:=HDL.out;have:=HN.out;omega
   have hE8:qW true W8 p (.slice a3 (hl2.length+k) c3) h0 (msg++bs.take (j+k)):=by
    have e0:msg++bs.take (j+k)=m1++X:=by rw[←HM1.out,←HX.out,List.append_assoc,List.take_add]
    obtain⟨e1,e2,e3⟩:=HNX.out X (by rw[HXL.out];omega) (by rw[HXL.out];exact hk3);rw[e0];unfold qW;rw[e1,e2,e3];exact⟨HR8.out,(show(hl2++X).length=hl2.length+k by rw[List.length_append,HXL.out])▸HO8.out⟩
   have hW8:(Value.slice a3 (hl2.length+k) c3).ownBlock=hv.ownBlock∨ ∀g,(Value.slice a3 (hl2.length+k) c3).ownBlock=some g→w.heap.size≤g:=by
    rcases HW7.out with h3|h3
    ·rw[h3];exact HOW.out
    ·exact .inr fun g hg=>Nat.le_trans HSP6.out.size (h3 g hg)
   have HE8:=hid hE8;have HW8:=hid hW8;have HD8:=hid (fun(a':Option Addr) (n' c':Nat) (hn:n'=(bs.drop j).length - k) (hc:c'=cb - k) (h:a'=some ⟨bb,ob+k,none⟩∨a'=some ⟨bb,ob,none⟩∧cb=k)=>(show Hold W8 (.slice a' n' c') (bs.drop (j+k)) by rw[←List.drop_drop];exact zP HH8.out (k:=k) (by have:=HN.out;omega) hn hc bb ob rfl h));clear hE8 hW8;by_cases hck:cb=k
   case pos=>
    have hck':=hck;go_wp2
    refine⟨⟨j+k,hjk,HD8.out _ _ _ (by rw[HN.out]) (by omega) (.inr ⟨rfl,hck'⟩),HOB.out,⟨_,HE8.out,HW8.out⟩,HSP8.out⟩,?_⟩;show N - k<N
    omega
   case neg=>
    have hck':=hck;go_wp2
    refine⟨⟨j+k,hjk,HD8.out _ _ _ (by rw[HN.out]) (by omega) (.inl rfl),HOB.out,⟨_,HE8.out,HW8.out⟩,HSP8.out⟩,?_⟩;show N - k<N
    omega
theorem ji (h0 msg bs:List Int)(hh:Words 32 8 h0)(hm: ∀z∈msg,0≤z∧z≤255)(p:Nat)(hv v:Value)(w:World)(hE:qW false w p hv h0 msg)(hH:Hold w v bs)(hF:bs≠[]→ ∀b,v.ownBlock=some b→zE p hv b)(hlen:(msg.length:Int)+bs.length≤140737488355328):
  Calls Tryz.prog 206 #[.pointer (some ⟨p,0,none⟩),v] w fun e w'=>e= .returned (.tuple #[])∧(∃hv',qW false w' p hv' h0 (msg++bs)∧(hv'.ownBlock=hv.ownBlock∨ ∀g,hv'.ownBlock=some g→w.heap.size≤g))∧Spare (zE p hv) w w':=by
 obtain⟨i0,hi,hz0,hz1,hz2⟩:=info_parts QH;have hps:p<w.heap.size:=(Ai hE.1).1;have HHh:=hid hh;have HHm:=hid hm;have HE:=hid hE;have HH:=hid hH;have HF:=hid hF;have hzb:=hH.1;have HZ:=hid hzb;clear hh hm hE hH hF hzb;obtain⟨S,hS⟩:=Ex (zE p hv);have HS:=hid hS;rw[hS];clear hS;go_enter Tryz.func206,Tryz.ntmps206
 go_wp2_with fail
 go_loopw [1] (fun b wr=> ∃j:Nat,j≤bs.length∧Hold wr b (bs.drop j)∧b.ownBlock=v.ownBlock∧(∃hv',qW false wr p hv' h0 (msg++bs.take j)∧(hv'.ownBlock=hv.ownBlock∨ ∀g,hv'.ownBlock=some g→w.heap.size≤g))∧Spare S w wr) (fun b _=>qbe b)
 case atStart=>exact⟨0,Nat.zero_le _,by simpa using HH.out,rfl,⟨hv,by simpa using HE.out,.inl rfl⟩,Spare.refl _ _⟩
 case round=>
  obtain⟨j,hj,hHb,hob,⟨hv1,hE1,hown1⟩,hsp⟩:=hrel;have HHb:=hid hHb;have HSP:=hid hsp;have HE1:=hid hE1;have HOB:=hid hob;have HOW:=hid hown1;obtain⟨ab,cb,rfl,hcb1,hcb2⟩:=hHb.slice;clear hHb hsp hE1 hob hown1;by_cases hlt:j<bs.length
  case neg=>
   obtain rfl:j=bs.length:=by omega
   have hk1:(bs.drop bs.length).length=0:=by simp
   rw[hk1]at*;go_wp2
   go_end0
   have h1:=HE1.out;rw[List.take_length]at h1;exact⟨rfl,⟨hv1,h1,HOW.out⟩,HSP.out⟩
  have hdl:(bs.drop j).length=bs.length - j:=by simp
  have hl1:0<(bs.drop j).length:=by omega
  have hl2:((bs.drop j).length:Int)≤140737488355328:=by omega
  obtain⟨m1,hm1⟩:=Ex (msg++bs.take j);have hml:m1.length≤140737488355328:=by rw[←hm1];simp;omega
  have hmz: ∀z∈m1,0≤z∧z≤255:=by
   rw[←hm1];intro z hz;rcases List.mem_append.1 hz with hz|hz
   ·exact HHm.out z hz
   ·exact HZ.out z (List.mem_of_mem_take hz)
  have HMZ:=hid hmz;have HDL:=hid hdl;have hE2:=HE1.out;rw[hm1]at hE2;have HM1:=hid hm1;obtain⟨N,hN⟩:=Ex ((bs.drop j).length);rw[hN]at hl1 hl2 hcb1⊢;have HN:=hid hN;have hsum:=ZN (yg false) m1;have hnx:=J6 false h0 m1;have hnf:=J7 false h0 m1;have hhl:=zn (yg false) m1;have hhz:=yV (n:=bB false) hmz;have hst:=Yy false HHh.out m1 (nbk (bB false) m1.length);obtain⟨hrow,hown⟩:=hE2;simp only[cond]at hrow;generalize stZ false h0 m1 (nbk (bB false) m1.length)=H1 at*;generalize bB false*nbk (bB false) m1.length=lo1 at*;generalize Qj (bB false) m1=hl at*;rw[show bB false=64 from rfl]at hnf hhl;obtain⟨a1,n1,c1,rfl⟩:=qs hown;have hn1:n1=hl.length:=yu hown;subst hn1;have HNX:=hid hnx;have HNF:=hid hnf;have HSUM:=hid hsum;have HHZ:=hid hhz;have HST:=hid hst;have HROW:=hid hrow;have HOWN:=hid hown;have c10:wr.cell? ⟨p,10,none⟩=some (.slice a1 hl.length c1):=qa hrow 10;have c11:wr.cell? ⟨p,11,none⟩=some (.int .i64 64):=qa hrow 11;have f10:=frozen_of_row wr p 10 _ _ hrow;have f11:=frozen_of_row wr p 11 _ _ hrow;clear hrow hown hst hhz hsum hnf hnx hm1 hmz hdl hN;go_upto_region 1 with(fail)
  obtain⟨tb,htb⟩: ∃tb,((hl.length:Int)==64)=tb:=⟨_,rfl⟩;go_quiet (fail)
  go_upto_if 17 with(fail)
  go_cut [1] from 4 (fun b W=>b= .slice ab N cb∧qfa false w S p hv h0 m1 W)
  case first=>
   have hb2:Below wr.heap.size wr (wr.drewN nq):=Qq nq;have hrow2:=qb HROW.out hb2;have hown2:=qf HOWN.out (fun g _ hg=>hb2.block g hg);have hsp2:Spare S w (wr.drewN nq):=HSP.out.trans (Spare.of_below S hb2) (fun _ _ h=>h);clear hb2 c10 c11 f10 f11;generalize wr.drewN nq=W2 at*
   cases tb
   case false=>
    have HT:=hid htb;clear htb;go_wp2
    go_meet
    case rel=>exact⟨rfl,H1,lo1,hl,_,hrow2,hown2,by have:=beq_eq_false_iff_ne.1 HT.out;show hl.length<64;omega,HNX.out,HOW.out,hsp2⟩
   have hfull:hl.length=64:=by have:=eq_of_beq htb;omega
   clear htb;have HFU:=hid hfull;have hNF:=HNF.out hfull;have hlo:lo1+64<9223372036854775808:=by have:=HSUM.out;omega
   have HLO:=hid hlo;rw[hfull]at hrow2;clear hfull hhl HNF;have HNF:=hid hNF;have HR2:=hid hrow2;have HO2:=hid hown2;have HS2:=hid hsp2;clear hNF hrow2 hown2 hsp2 hlo;have hps2:p<W2.heap.size:=(Ai HR2.out).1;go_upto_region 2 with(fail)
   refine Ql (fun f W=>(f=false→Below W2.heap.size W2 W)∧(f=true→W.heap[p]? =some (.cells (Yc H1 ((lo1+64:Nat):Int) (.slice a1 64 c1)) 167 (0,0))∧But p W2 W)) 16 [.v 19 (.pointer (some ⟨p,0,none⟩)),.v 20 (.pointer (some ⟨p,0,none⟩)),.v 21 (.pointer (some ⟨p,0,none⟩)),.v 22 (.pointer (some ⟨p,8,none⟩)),.v 23 (.agg #[.int .u64 (lo1:Nat),.int .u64 0]),.v 24 (.pointer (some ⟨p,0,none⟩)),.v 25 (.pointer (some ⟨p,0,none⟩)),.v 26 (.pointer (some ⟨p,11,none⟩)),.v 27 (.int .i64 64),.v 28 (.int .u64 64),.v 29 (.tuple #[.agg #[.int .u64 ((lo1+64:Nat):Int),.int .u64 0],.bool false]),.v 18 (.tuple #[.agg #[.int .u64 ((lo1+64:Nat):Int),.int .u64 0],.bool false]),.v 30 (.agg #[.int .u64 ((lo1+64:Nat):Int),.int .u64 0]),.v 31 (.bool false),.v 32 (.pointer (some ⟨p,0,none⟩)),.v 33 (.pointer (some ⟨p,8,none⟩)),.f none [] (fun _ _=>True)] (by exact⟨fun _ _ _ _ h=>h,trivial⟩) ⟨fun _=>Br.drew,fun h=>(by cases h)⟩ (fun f W W' h hb=>⟨fun e=>(h.1 e).trans (hb.mono (h.1 e).size),fun e=>⟨qb (h.2 e).1 hb,(h.2 e).2.trans (But.of_below hb)⟩⟩) ?_ ?_ ?_
   ·repeat' (with_reducible first|exact qt|refine qn ?_ ?_)
    all_goals try
     refine .inr ?_;intro A x W f hA hR hf hdep D K hK;have a0:=hA.2 0 (by decide);conv at a0=>rhs;whnf
     simp only[QI,QU]at D;clear hdep hA;go_simp
     exact hK _ _ BR rfl
    any_goals exact .inl rfl
    all_goals refine .inr ?_
    ·intro A x W f hA hR hf hdep _ K hK;have g22:=gw hA hdep 3 22;clear hdep hA;have hf0:f=false:=hf (by kernel_rfl);have g0:=qb HR2.out (hR.1 hf0);refine qF 157 _ rfl p 8 g22 167 _ #[.int .u64 (lo1:Nat),.int .u64 0] (0,0) _ g0 Tryz.underlying157 rfl (by kernel_rfl) (qaN _ _ _) (hK _ _ Br rfl)
    ·intro A x W f hA hR hf hdep _ K hK;have g26:=gw hA hdep 7 26;clear hdep hA;have hf0:f=false:=hf (by kernel_rfl);have g0:=qb HR2.out (hR.1 hf0);have c0:W.cell? ⟨p,11,none⟩=some (.int .i64 64):=qa g0 11;go_simp
     exact hK _ _ BR rfl
    ·intro A x W f hA hR hf hdep _ K hK;have g23:=gw hA hdep 4 23;have g28:=gw hA hdep 9 28;clear hdep hA;go_simp
     refine(qaU lo1 64 HLO.out _).mono ?_;rintro e w' ⟨rfl,hb⟩;exact hK _ _ hb rfl
   ·intro A x W hA hR hdep K hK;have g33:=gw hA hdep 15 33;have g30:=gw hA hdep 12 30;clear hdep hA;have g0:=qb HR2.out (hR.1 rfl);refine Yr 157 _ _ rfl p 8 #[.int .u64 ((lo1+64:Nat):Int),.int .u64 0] g33 g30 167 _ g0 (by kernel_rfl) (by simp[Yc]) (by simp[Value.oneCell']) ?_;rw[qcj];refine hK _ _ (fun _=>rfl) ⟨fun h=>(by cases h),fun _=>⟨setRow_heap _ _ _ _ _ _ g0,(But.of_below (hR.1 rfl)).trans (But.of_setRow _ _ _)⟩⟩ ⟨.inr (fun _ h=>h),.inr (fun _ h=>h),.inr (fun _ h=>h),.inr (fun _ h=>h),.inr (fun _ h=>h),.inr (fun _ h=>h),.inr (fun _ h=>h),.inr (fun _ h=>h),.inr (fun _ h=>h),.inr (fun _ h=>h),.inr (fun _ h=>h),.inr (fun _ h=>h),.inr (fun _ h=>h),.inr (fun _ h=>h),.inr (fun _ h=>h),.inr (fun _ h=>h),.inl rfl,trivial⟩ trivial
   intro x W hR hall;obtain⟨es16, -⟩:=hall;simp only[Qi,Act.put,Ls];obtain⟨hr3,hb3⟩:=hR.2 rfl;have hs3:=hb3.size;have ho3:W.ownsRow 0 5 1 (.slice a1 64 c1) 64 (hl.map qv):=by
    have h1:=HO2.out;rw[HFU.out]at h1;exact yR h1 hb3 HR2.out (by decide)
   have hsp3:Spare S w W:=HS2.out.trans (Spare.of_but hb3) (fun b _ hb=>by have h2:=HS.out;subst h2;exact hb.1);have hH3:Holds8 W (.slice a1 64 c1) hl:=Ya ho3;have HR3:=hid hr3;have HO3:=hid ho3;have HS3:=hid hsp3;have HH3:=hid hH3;clear es16 hR hr3 hb3 ho3 hsp3 hH3 x HR2 HO2 HS2 hs3 hps2;generalize W=W3 at*;clear W2;go_upto_region 3 with(fail)
   obtain⟨H2,hH2⟩:=Ex (Ym false H1 hl ((lo1+64:Nat):Int) false false);have hw2:Words 32 8 H2:=by rw[←hH2];exact QP false HST.out _ _ _ _
   have hMX:=J8 H1 hl HST.out (.slice a1 64 c1) (lo1+64) (by have:=HLO.out;omega) false false;have hnf2:=HNF.out;rw[hH2]at hMX hnf2;have HMX:=hid hMX;have HNF2:=hid hnf2;have HW2:=hid hw2;clear hMX hH2 hnf2 hw2 HNF;have hps3:p<W3.heap.size:=(Ai HR3.out).1;refine qA (n:=18) (w0:=W3) (B:=W3.heap.size) [.v 34 (.pointer (some ⟨p,0,none⟩)),.v 35 (.pointer (some ⟨p,0,none⟩)),.v 36 (.pointer (some ⟨p,0,none⟩)),.v 37 (.pointer (some ⟨p,12,none⟩)),.v 38 (.func (.func 91) #[] #[]),.v 39 (.pointer (some ⟨p,0,none⟩)),.v 40 (.pointer (some ⟨p,0,none⟩)),.v 41 (.pointer (some ⟨p,0,none⟩)),.v 42 (.agg (qm .u32 H1)),.v 43 (.pointer (some ⟨p,0,none⟩)),.v 44 (.pointer (some ⟨p,0,none⟩)),.v 45 (.pointer (some ⟨p,10,none⟩)),.v 46 (.slice a1 64 c1),.v 47 (.pointer (some ⟨p,0,none⟩)),.v 48 (.pointer (some ⟨p,0,none⟩)),.v 49 (.pointer (some ⟨p,8,none⟩)),.v 50 (.agg #[.int .u64 ((lo1+64:Nat):Int),.int .u64 0]),.v 51 (.agg (qm .u32 H2))] trivial Br.drew Nl ?_ ?_
   ·repeat' (with_reducible first|exact qt|refine qn ?_ ?_)
    all_goals try
     intro A x W hA hW hBW hdep D K hK;have a0:=hA.2 0 (by decide);conv at a0=>rhs;whnf
     simp only[QI,QU]at D;clear hdep hA;go_simp
     exact hK _ _ BR rfl
    ·intro A x W hA hW hBW hdep _ K hK;have g37:=gv hA hdep 3 37;clear hdep hA;have g0:=qb HR3.out hW;have c0:W.cell? ⟨p,12,none⟩=some (.func (.func 91) #[] #[]):=qa g0 12;go_simp
     exact hK _ _ BR rfl
    ·intro A x W hA hW hBW hdep _ K hK;have g41:=gv hA hdep 7 41;clear hdep hA;have g0:=qb HR3.out hW;refine qF 160 _ rfl p 0 g41 167 _ (qm .u32 H1) (0,0) _ g0 Tryz.underlying160 rfl (by rw[qg,HST.out.1];kernel_rfl) (qei HST.out _ _) (hK _ _ Br rfl)
    ·intro A x W hA hW hBW hdep _ K hK;have g45:=gv hA hdep 11 45;clear hdep hA;have g0:=qb HR3.out hW;have c0:W.cell? ⟨p,10,none⟩=some (.slice a1 64 c1):=qa g0 10;go_simp
     exact hK _ _ BR rfl
    ·intro A x W hA hW hBW hdep _ K hK;have g49:=gv hA hdep 15 49;clear hdep hA;have g0:=qb HR3.out hW;refine qF 157 _ rfl p 8 g49 167 _ #[.int .u64 ((lo1+64:Nat):Int),.int .u64 0] (0,0) _ g0 Tryz.underlying157 rfl (by kernel_rfl) (qaN _ _ _) (hK _ _ Br rfl)
    ·intro A x W hA hW hBW hdep _ K hK;have g38:=gv hA hdep 4 38;have g42:=gv hA hdep 8 42;have g46:=gv hA hdep 12 46;have g50:=gv hA hdep 16 50;clear hdep hA;go_simp
     refine(HMX.out _ (HH3.out.mono_below hW Nl) HHZ.out HFU.out).mono ?_;rintro e w' ⟨rfl,hb⟩;exact hK _ _ hb rfl
   intro x W hW hBW hall;clear hall;refine qh ?_;simp only[Qi,Act.put,Ls];have hr4:=qb HR3.out hW;have hb4:But p W3 W:=But.of_below hW;clear hW hBW x;go_wp2_with fail
   refine qh ?_;go_wp2_with fail
   refine qh ?_;refine Yf rfl 160 _ _ rfl p 0 (qm .u32 H2) rfl rfl 167 _ hr4 (by rw[qg,HW2.out.1];kernel_rfl) (by rw[qg,HW2.out.1];simp[Yc]) qU ?_;rw[qdq HW2.out];refine qo ?_;have hr5:=setRow_heap W p _ (Yc H2 ((lo1+64:Nat):Int) (.slice a1 64 c1)) _ _ hr4;have hb5:=hb4.trans (But.of_setRow W p (Yc H2 ((lo1+64:Nat):Int) (.slice a1 64 c1)));generalize W.setRow p (Yc H2 ((lo1+64:Nat):Int) (.slice a1 64 c1))=W5 at*;have ho5:=yR HO3.out hb5 HR3.out (by decide);have hsp5:Spare S w W5:=HS3.out.trans (Spare.of_but hb5) (fun b _ hb=>by have h2:=HS.out;subst h2;exact hb.1);have HO5:=hid ho5;have HS5:=hid hsp5;have HR5:=hid hr5;clear hr4 hb4 hb5 ho5 hsp5 HMX HO3 HS3 HR3 HH3 W hps3 W3;obtain⟨g1,rfl⟩:=ZG HO5.out (by decide);obtain⟨cu, -, -, -, -,hk1,hk2⟩:=zL HO5.out;have hk3:(c1:Int)≤9223372036854775807:=by unfold maxLen at hk2;omega
   have hk4:64≤(c1:Int):=by omega
   have c10:W5.cell? ⟨p,10,none⟩=some (.slice (some ⟨g1,0,none⟩) 64 c1):=qa hr5 10;have f10:=frozen_of_row W5 p 10 _ _ hr5;have hps5:p<W5.heap.size:=(Ai hr5).1;clear hr5 hk2;go_wp2
   go_meet
   case rel=>
    have hb6:But p W5 (W5.setCell ⟨p,10,none⟩ (.slice (some ⟨g1,0,none⟩) 0 c1)):=(But.refl p W5).set 10 _;exact⟨rfl,H2,lo1+64,[],.slice (some ⟨g1,0,none⟩) 0 c1,heap_setCell_same W5 p 10 _ _ _ HR5.out,qa7 (yR HO5.out hb6 HR5.out (by decide)),by show 0<64;decide,HNF2.out,HOW.out,HS5.out.trans (Spare.of_but hb6) (fun b _ hb=>by have h2:=HS.out;subst h2;exact hb.1)⟩
  case rest=>
   clear c10 c11 f10 f11 htb tb nq HROW HOWN HST HHZ HSUM HNF HNX hhl HE1;obtain⟨rfl,H2,lo2,hl2,hv2,hr2,ho2,hlt2,hnx2,how2,hsp2⟩:=hcut;have HSPR:=HSP;clear HOW HSP;simp only[cond]at hr2;have hlt2':hl2.length<64:=hlt2;obtain⟨a2,n2,c2,rfl⟩:=qs ho2;obtain rfl:n2=hl2.length:=yu ho2;obtain⟨k,hk⟩:=Ex (min N (64 - hl2.length));have HK:=hid hk;have HR2:=hid hr2;have HO2:=hid ho2;have HNX:=hid hnx2;have HOW:=hid how2;have HSP:=hid hsp2;clear hk ho2 hnx2 how2 hsp2 hlt2;have c10:wc.cell? ⟨p,10,none⟩=some (.slice a2 hl2.length c2):=qa hr2 10;have c11:wc.cell? ⟨p,11,none⟩=some (.int .i64 64):=qa hr2 11;have hpc:p<wc.heap.size:=(Ai hr2).1;clear hr2;go_upto_region 5 with(fail)
   go_quiet (fail)
   rw[show min (N:Int) (64 - (hl2.length:Int))=(k:Int) from by have:=HK.out;omega];have hb6:Below wc.heap.size wc (wc.drewN nq):=Qq nq;have hr6:=qb HR2.out hb6;have ho6:=qf HO2.out (fun g _ hg=>hb6.block g hg);have hsp6:Spare S w (wc.drewN nq):=HSP.out.trans (Spare.of_below S hb6) (fun _ _ h=>h);clear hb6 c10 c11 HR2 HO2 HSP hpc;generalize wc.drewN nq=W6 at*;clear wc;have hH6:Hold W6 (.slice ab N cb) (bs.drop j):=by
    have h1:=HH.out;have h2:=HHb.out;have h3:=HOB.out;rw[HN.out]at h2 h3;exact YO h2 HH.out h3 HSPR.out hsp6 (fun b hb=>by have h4:=HS.out;subst h4;exact HF.out (fun e=>by rw[e]at hlt;simp at hlt) b hb) (fun e=>by rw[e]at hlt;simp at hlt)
   obtain⟨X,hX⟩:=Ex ((bs.drop j).take k);have hk1:1≤k∧k≤N∧hl2.length+k≤64:=by have:=HK.out;omega
   have hXl:X.length=k:=by rw[←hX,List.length_take,HN.out];omega
   have hX6:Hold W6 (.slice ab k cb) X:=by rw[←hX];exact qad hH6 (by rw[HN.out];omega)
   have hs6:=hX6.src;rw[hXl]at hs6;have HX:=hid hX;have HXL:=hid hXl;have HX6:=hid hX6;have HS6:=hid hs6;have HH6:=hid hH6;have HR6:=hid hr6;have HO6:=hid ho6;have HSP6:=hid hsp6;have hps6:p<W6.heap.size:=(Ai hr6).1;obtain⟨hk1,hk2,hk3⟩:=hk1;have hk4:(k:Int)≤N∧(k:Int)≤cb∧1≤(k:Int):=by omega
   obtain⟨hk4,hk5,hk6⟩:=hk4;clear hX hXl hX6 hs6 hH6 hr6 ho6 hsp6;go_upto_region 6 with(fail)
   refine Ys (n:=9) (fun f W=>(f=false→Below W6.heap.size W6 W)∧(f=true→W.heap[p]? =some (.cells (Yc H2 ((lo2:Nat):Int) (.slice a2 hl2.length c2)) 167 (0,0))∧Spare (fun b=>(Value.slice a2 hl2.length c2).ownBlock≠some b) W6 W)) 8 [.v 75 (.pointer (some ⟨p,0,none⟩)),.v 76 (.pointer (some ⟨p,0,none⟩)),.v 77 (.pointer (some ⟨p,0,none⟩)),.v 78 (.pointer (some ⟨p,10,none⟩)),.v 79 (.slice a2 hl2.length c2),.v 80 (.slice ab N cb),.v 81 (.int .i64 (k:Nat)),.v 82 (.slice ab k cb),.p 83 (fun u W=>W.ownsRow 0 5 1 u (hl2.length+k) ((hl2++X).map qv)∧(u.ownBlock=(Value.slice a2 hl2.length c2).ownBlock∨ ∀g,u.ownBlock=some g→W6.heap.size≤g))] (by exact⟨(fun W W' hb u h=>⟨qf h.1 (fun g _ hg=>hb.block g hg),h.2⟩),trivial⟩) ⟨fun _=>Br.drew,fun h=>(by cases h)⟩ (fun f W W' h hb=>⟨fun e=>(h.1 e).trans (hb.mono (h.1 e).size),fun e=>⟨qb (h.2 e).1 hb,(h.2 e).2.trans (Spare.of_below _ hb) (fun _ _ h=>h)⟩⟩) ?_ ?_ ?_
   ·repeat' (with_reducible first|exact qt|refine qn ?_ ?_)
    all_goals try
     refine .inr ?_;intro A x W f hA hR hf hdep D K hK;have a0:=hA.2 0 (by decide);conv at a0=>rhs;whnf
     have a1:=hA.2 1 (by decide);conv at a1=>rhs;whnf
     have a4:=hA.2 4 (by decide);conv at a4=>rhs;whnf
     simp only[QI,QU]at D;clear hdep hA;go_simp
     exact hK _ _ BR rfl
    any_goals exact .inl rfl
    all_goals refine .inr ?_
    ·intro A x W f hA hR hf hdep _ K hK;have g78:=gw hA hdep 3 78;clear hdep hA;have hf0:f=false:=hf (by kernel_rfl);have g0:=qb HR6.out (hR.1 hf0);have c0:W.cell? ⟨p,10,none⟩=some (.slice a2 hl2.length c2):=qa g0 10;go_simp
     exact hK _ _ BR rfl
   ·intro A x W hA hR hdep K hK;have g79:=gw hA hdep 4 79;have g82:=gw hA hdep 7 82;clear hdep hA;have hB:=hR.1 rfl;have ho:=qf HO6.out (fun g _ hg=>hB.block g hg);have g0:=qb HR6.out hB;refine Y5 _ _ 24 rfl 0 5 i0 (.int .u8 0) 1 Tryz.underlying24 hi hz0 hz1 hz2 rfl (.slice a2 hl2.length c2) hl2.length (hl2.map qv) g79 ho (.slice ab k cb) k (X.map qv) g82 (HS6.out.below hB) (by unfold maxLen;omega) (by omega) (Nat.zero_le _) ?_;intro v' w' h1 h2 h3;have h4:w'.heap[p]? =some (.cells (Yc H2 ((lo2:Nat):Int) (.slice a2 hl2.length c2)) 167 (0,0)):=(h2.block p (Ai g0).1 (qca ho g0 (by decide))).trans g0;rw[←List.map_append]at h1;refine hK v' w' (fun h=>by cases h) ⟨fun h=>(by cases h),fun _=>⟨h4,(Spare.of_below _ hB).trans (Spare.of_grown h2) (fun _ _ h=>h)⟩⟩ ⟨.inr (fun _ h=>h),.inr (fun _ h=>h),.inr (fun _ h=>h),.inr (fun _ h=>h),.inr (fun _ h=>h),.inr (fun _ h=>h),.inr (fun _ h=>h),.inr (fun _ h=>h),.inl rfl,trivial⟩ ⟨h1,?_⟩;rcases h3 with h3|h3
    ·exact .inl h3
    ·refine .inr fun g hg=>?_
     rw[h3]at hg;cases hg;exact hB.size
   intro x W hR hall;obtain⟨e83, -⟩:=hall;change ((fun u W=>W.ownsRow 0 5 1 u (hl2.length+k) ((hl2++X).map qv)∧(u.ownBlock=(Value.slice a2 hl2.length c2).ownBlock∨ ∀g,u.ownBlock=some g→W6.heap.size≤g))) (x 83) W at e83
   obtain⟨hr7,hsp7⟩:=hR.2 rfl;obtain⟨ho7,how7⟩:=e83;obtain⟨a3,n3,c3,e83⟩:=qs ho7;rw[e83]at ho7 how7;obtain rfl:n3=hl2.length+k:=yu ho7;refine qh ?_;simp only[Qi,Act.put,Ls,e83];clear e83;have c10:W.cell? ⟨p,10,none⟩=some (.slice a2 hl2.length c2):=qa hr7 10;have f10:=frozen_of_row W p 10 _ _ hr7;have hps7:p<W.heap.size:=(Ai hr7).1;have HR7:=hid hr7;have HO7:=hid ho7;have HW7:=hid how7;have HSP7:=hid hsp7;clear hr7 ho7 how7 hsp7 hR;go_wp2_with fail
   refine qh ?_;go_wp2_with fail
   refine qh ?_;go_wp2_with fail
   refine qo ?_;obtain⟨bb,ob,rfl⟩:=Z7 HH6.out (fun e=>by have:=HN.out;rw[e]at this;simp at this;omega);have hb8:But p W (W.setCell ⟨p,10,none⟩ (.slice a3 (hl2.length+k) c3)):=(But.refl p W).set 10 _;have HR8:=hid (heap_setCell_same W p 10 _ _ (.slice a3 (hl2.length+k) c3) HR7.out);have HO8:=hid (yR HO7.out hb8 HR7.out (by decide));have hsp8:Spare S w (W.setCell ⟨p,10,none⟩ (.slice a3 (hl2.length+k) c3)):=by
    refine(HSP6.out.trans HSP7.out ?_).trans (Spare.of_but hb8) (fun b _ hb=>by have h2:=HS.out;subst h2;exact hb.1);intro b hb1 hb2;have h2:=HS.out;subst h2;rcases HOW.out with h3|h3
    ·rw[h3];exact hb2.2
    ·intro e;have:=h3 b e;omega
   have hH8:Hold (W.setCell ⟨p,10,none⟩ (.slice a3 (hl2.length+k) c3)) (.slice (some ⟨bb,ob,none⟩) N cb) (bs.drop j):=by
    have h3:=HOB.out;exact YO HH6.out HH.out h3 HSP6.out hsp8 (fun b hb=>by have h4:=HS.out;subst h4;exact HF.out (fun e=>by rw[e]at hlt;simp at hlt) b hb) (fun e=>by rw[e]at hlt;simp at hlt)
   have HSP8:=hid hsp8;have HH8:=hid hH8;clear hb8 hsp8 hH8 c10 f10 hps7;have hs86:W6.heap.size≤(W.setCell ⟨p,10,none⟩ (.slice a3 (hl2.length+k) c3)).heap.size:=by have:=HSP7.out.size;simpa [World.setCell] using this
   generalize W.setCell ⟨p,10,none⟩ (.slice a3 (hl2.length+k) c3)=W8 at*;have hjk:j+k≤bs.length:=by have:=HDL.out;have:=HN.out;omega
   have hE8:qW false W8 p (.slice a3 (hl2.length+k) c3) h0 (msg++bs.take (j+k)):=by
    have e0:msg++bs.take (j+k)=m1++X:=by rw[←HM1.out,←HX.out,List.append_assoc,List.take_add]
    obtain⟨e1,e2,e3⟩:=HNX.out X (by rw[HXL.out];omega) (by rw[HXL.out];exact hk3);rw[e0];unfold qW;rw[e1,e2,e3];exact⟨HR8.out,(show(hl2++X).length=hl2.length+k by rw[List.length_append,HXL.out])▸HO8.out⟩
   have hW8:(Value.slice a3 (hl2.length+k) c3).ownBlock=hv.ownBlock∨ ∀g,(Value.slice a3 (hl2.length+k) c3).ownBlock=some g→w.heap.size≤g:=by
    rcases HW7.out with h3|h3
    ·rw[h3];exact HOW.out
    ·exact .inr fun g hg=>Nat.le_trans HSP6.out.size (h3 g hg)
   have HE8:=hid hE8;have HW8:=hid hW8;have HD8:=hid (fun(a':Option Addr) (n' c':Nat) (hn:n'=(bs.drop j).length - k) (hc:c'=cb - k) (h:a'=some ⟨bb,ob+k,none⟩∨a'=some ⟨bb,ob,none⟩∧cb=k)=>(show Hold W8 (.slice a' n' c') (bs.drop (j+k)) by rw[←List.drop_drop];exact zP HH8.out (k:=k) (by have:=HN.out;omega) hn hc bb ob rfl h));clear hE8 hW8;by_cases hck:cb=k
   case pos=>
    have hck':=hck;go_wp2
    refine⟨⟨j+k,hjk,HD8.out _ _ _ (by rw[HN.out]) (by omega) (.inr ⟨rfl,hck'⟩),HOB.out,⟨_,HE8.out,HW8.out⟩,HSP8.out⟩,?_⟩;show N - k<N
    omega
   case neg=>
    have hck':=hck;go_wp2
    refine⟨⟨j+k,hjk,HD8.out _ _ _ (by rw[HN.out]) (by omega) (.inl rfl),HOB.out,⟨_,HE8.out,HW8.out⟩,HSP8.out⟩,?_⟩;show N - k<N
    omega
end Go.Proofs.YtdndeffmlhaipaaGreatDoor
