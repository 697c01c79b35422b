/- What the program takes from a block of parameters. No condition. -/
import Derived.Test.YtdndeffmlhaipaaGreatDoorM23
import Derived.Test.YtdndeffmlhaipaaGreatDoorM18
set_option linter.all false
set_option maxRecDepth 100000
set_option maxHeartbeats 8000000
namespace Go.Proofs.YtdndeffmlhaipaaGreatDoor
open Go.ChangeShapes Go.WideShapes Go.ChangeAt Go.RowKit Go.Joins Go.Shelf Go.Maps
open Go.Lib (hid)
attribute [local go_sem] Oper.semAt_some
theorem ZQ (zs:List Int)(b off cap:Nat)(w:World)(hB:Qs w b off zs)(hz: ∀z∈zs,0≤z∧z≤255)(hcap:64≤cap)(hcap2:(cap:Int)≤9223372036854775807)(hl:zs.length=64)(hmid: ∀i,18≤i→i<32→qp zs i=0)(hk0:1≤qp zs 0∧qp zs 0≤64)(hk1:qp zs 1≤64)(hk3:1≤qp zs 3)(hk17:qp zs 17≤64):
  Calls Tryz.prog 32 #[.int .i64 1,.slice (some ⟨b,off,none⟩) 64 cap,.bool false] w fun e w'=>(∃fo dp lf ofs nd inr sa pe,e= .returned (.tuple #[Zo (qp zs 0) (qp zs 1) fo dp lf ofs 0 nd inr sa pe,.int .i64 0])∧sa.oneCell'=true∧pe.oneCell'=true)∧Below w.heap.size w w':=by
 obtain⟨h1,h2⟩:=id hB;have HC:=hid h2;have HB:=hid hB;clear h2 hB;obtain⟨z0,hz0⟩:=Ex (qp zs 0);have hb0:0≤z0∧z0≤255:=by rw[←hz0];exact(qX hz (by omega)).2
 have HZ0:=hid (show w.cell? ⟨b,off+0,none⟩=some (.int .u8 z0) by rw[←hz0];exact HC.out 0 (by omega));rw[hz0]at hk0;try rw[hz0]
 obtain⟨z1,hz1⟩:=Ex (qp zs 1);have hb1:0≤z1∧z1≤255:=by rw[←hz1];exact(qX hz (by omega)).2
 have HZ1:=hid (show w.cell? ⟨b,off+1,none⟩=some (.int .u8 z1) by rw[←hz1];exact HC.out 1 (by omega));rw[hz1]at hk1;try rw[hz1]
 obtain⟨z2,hz2⟩:=Ex (qp zs 2);have hb2:0≤z2∧z2≤255:=by rw[←hz2];exact(qX hz (by omega)).2
 have HZ2:=hid (show w.cell? ⟨b,off+2,none⟩=some (.int .u8 z2) by rw[←hz2];exact HC.out 2 (by omega));try rw[hz2]
 obtain⟨z3,hz3⟩:=Ex (qp zs 3);have hb3:0≤z3∧z3≤255:=by rw[←hz3];exact(qX hz (by omega)).2
 have HZ3:=hid (show w.cell? ⟨b,off+3,none⟩=some (.int .u8 z3) by rw[←hz3];exact HC.out 3 (by omega));rw[hz3]at hk3;try rw[hz3]
 obtain⟨z16,hz16⟩:=Ex (qp zs 16);have hb16:0≤z16∧z16≤255:=by rw[←hz16];exact(qX hz (by omega)).2
 have HZ16:=hid (show w.cell? ⟨b,off+16,none⟩=some (.int .u8 z16) by rw[←hz16];exact HC.out 16 (by omega));try rw[hz16]
 obtain⟨z17,hz17⟩:=Ex (qp zs 17);have hb17:0≤z17∧z17≤255:=by rw[←hz17];exact(qX hz (by omega)).2
 have HZ17:=hid (show w.cell? ⟨b,off+17,none⟩=some (.int .u8 z17) by rw[←hz17];exact HC.out 17 (by omega));rw[hz17]at hk17;try rw[hz17]
 obtain⟨L4,hL4⟩:=Ex (yj zs 4 4);have hL4b:0≤L4∧L4<4294967296:=by rw[←hL4];exact qY hz 4 (by omega)
 obtain⟨OF,hOF⟩:=Ex (yj zs 8 8);have hOFb:0≤OF∧OF<18446744073709551616:=by rw[←hOF];exact qY hz 8 (by omega)
 obtain⟨b0,hb0⟩:=Ex w.heap.size;have hbk:b<b0:=by rw[←hb0];exact h1
 have hSL: ∀W,Below b0 w W→Holds8 W (.slice (some ⟨b,off,none⟩) 64 cap) zs:=fun W hW=>⟨some ⟨b,off,none⟩,cap,by rw[hl],.inr ⟨b,off,rfl,Nat.lt_of_lt_of_le h1 hW.size,fun i hi=>(hW.cell (p:=⟨b,off+i,none⟩) hbk).trans (HC.out i hi)⟩⟩
 have HSL:=hid hSL;clear hSL;have hs: ∀w:World,Calls Tryz.prog 50 #[.int .i64 1] w fun e w'=>e= .returned (.tuple #[.int .i64 64,.int .i64 64,.int .i64 16])∧w'=w:=za true
 go_enter Tryz.func32,Tryz.ntmps32
 go_wp2_with fail
 refine(J0 true _ _ _ _).mono ?_;rintro e w1 ⟨⟨x,rfl,hx⟩,rfl⟩;obtain rfl:x=0:=hx.2 (by rfl);clear hx;go_wp2_with fail
 refine(hs _).mono ?_;rintro e w1 ⟨rfl,rfl⟩;go_wp2_with fail
 have hbA:Below b0 w (w.alloc (.cells #[.int .i64 0,.int .i64 0,.int .i64 0,.int .i64 0,.int .u32 0,.int .u64 0,.int .u32 0,.int .i64 0,.int .i64 0,.slice none 0 0,.slice none 0 0] 72)):=by rw[←hb0];exact Br.alloc Nl _
 go_loopw [35] (fun i wr=> ∃k:Nat,i= .int .i64 k∧k≤14∧wr=(w.alloc (.cells #[.int .i64 0,.int .i64 0,.int .i64 0,.int .i64 0,.int .u32 0,.int .u64 0,.int .u32 0,.int .i64 0,.int .i64 0,.slice none 0 0,.slice none 0 0] 72))) (fun i _=>14 - (intOf i).toNat)
 case atStart=>exact⟨0,rfl,by omega,rfl⟩
 case round=>
  obtain⟨k,rfl,hk,rfl⟩:=hrel;by_cases hlt:k<14
  ·have hc:(w.alloc (.cells #[.int .i64 0,.int .i64 0,.int .i64 0,.int .i64 0,.int .u32 0,.int .u64 0,.int .u32 0,.int .i64 0,.int .i64 0,.slice none 0 0,.slice none 0 0] 72)).cell? ⟨b,off+18+k,none⟩=some (.int .u8 0):=by
    have:=(hbA.cell (p:=⟨b,off+(18+k),none⟩) hbk).trans (HC.out (18+k) (by omega))
    rw[hmid (18+k) (by omega) (by omega),←Nat.add_assoc]at this;exact this
   go_wp2
   exact⟨⟨k+1,rfl,by omega,by trivial⟩,by simp[intOf];omega⟩
  ·obtain rfl:k=14:=by omega
   go_wp2_with fail
   refine(qcF true _).mono ?_;rintro e w2 ⟨⟨rb,rfl,hrb,hrows⟩,hbr⟩;have hs1:(w.alloc (.cells #[.int .i64 0,.int .i64 0,.int .i64 0,.int .i64 0,.int .u32 0,.int .u64 0,.int .u32 0,.int .i64 0,.int .i64 0,.slice none 0 0,.slice none 0 0] 72)).heap.size=b0+1:=by simp[hb0]
   rw[hs1]at hrb hbr;have hb2:Below b0 w w2:=hbA.trans (hbr.mono (by omega));have hs2:b0+1≤w2.heap.size:=by rw[←hs1];exact hbr.size
   have HR:=hid (show w2.heap[b0]? =some (.cells #[.int .i64 0,.int .i64 0,.int .i64 0,.int .i64 0,.int .u32 0,.int .u64 0,.int .u32 0,.int .i64 0,.int .i64 0,.slice none 0 0,.slice none 0 0] 72 (0,0)) from(hbr.block b0 (by omega)).trans (by rw[←hb0];exact Wn w _));have R8:=hid (show w2.cell? ⟨rb,36,none⟩=some (.int .i64 16) from(hrows.2 8 (by decide) (by decide)).2.1);have R9:=hid (show w2.cell? ⟨rb,41,none⟩=some (.int .i64 17) from(hrows.2 9 (by decide) (by decide)).2.1);have R6:=hid (show w2.cell? ⟨rb,27,none⟩=some (.int .i64 8) from(hrows.2 6 (by decide) (by decide)).2.2);have R7:=hid (show w2.cell? ⟨rb,31,none⟩=some (.int .i64 12) from(hrows.2 7 (by decide) (by decide)).2.1);have S7:=hid (show w2.cell? ⟨rb,32,none⟩=some (.int .i64 4) from(hrows.2 7 (by decide) (by decide)).2.2);have hrl:=hrows.1;clear hrows hbr hbA;go_wp2_with fail
   have hwr:Below w2.heap.size w2 w2.drew:=Br.drew;refine qA (n:=37) (w0:=w2) (B:=w2.heap.size) [.v 45 (.slice (some ⟨b,off,none⟩) 64 cap),.v 46 (.pointer (some ⟨b,off,none⟩)),.v 47 (.int .u8 z0),.v 48 (.int .i64 z0),.v 49 (.slice (some ⟨b,off,none⟩) 64 cap),.v 50 (.pointer (some ⟨b,off+1,none⟩)),.v 51 (.int .u8 z1),.v 52 (.int .i64 z1),.v 53 (.slice (some ⟨b,off,none⟩) 64 cap),.v 54 (.pointer (some ⟨b,off+2,none⟩)),.v 55 (.int .u8 z2),.v 56 (.int .i64 z2),.v 57 (.slice (some ⟨b,off,none⟩) 64 cap),.v 58 (.pointer (some ⟨b,off+3,none⟩)),.v 59 (.int .u8 z3),.v 60 (.int .i64 z3),.v 61 (.slice (some ⟨b,off,none⟩) 64 cap),.v 62 (.int .u64 L4),.v 63 (.int .u32 L4),.v 64 (.slice (some ⟨b,off,none⟩) 64 cap),.v 65 (.slice (some ⟨rb,0,none⟩) 9 9),.v 66 (.pointer (some ⟨rb,35,none⟩)),.v 67 (.pointer (some ⟨rb,36,none⟩)),.v 68 (.int .i64 16),.v 69 (.pointer (some ⟨b,off+16,none⟩)),.v 70 (.int .u8 z16),.v 71 (.int .i64 z16),.v 72 (.slice (some ⟨b,off,none⟩) 64 cap),.v 73 (.slice (some ⟨rb,0,none⟩) 9 9),.v 74 (.pointer (some ⟨rb,40,none⟩)),.v 75 (.pointer (some ⟨rb,41,none⟩)),.v 76 (.int .i64 17),.v 77 (.pointer (some ⟨b,off+17,none⟩)),.v 78 (.int .u8 z17),.v 79 (.int .i64 z17),.v 80 (.agg #[.int .i64 z0,.int .i64 z1,.int .i64 z2,.int .i64 z3,.int .u32 L4,.int .u64 0,.int .u32 0,.int .i64 z16,.int .i64 z17,.slice none 0 0,.slice none 0 0]),.p 15 (fun u W=> ∃p,u= .pointer (some ⟨p,0,none⟩)∧w2.heap.size≤p∧W.heap[p]? =some (.cells #[.int .i64 0,.int .i64 0,.int .i64 0,.int .i64 0,.int .u32 0,.int .u64 0,.int .u32 0,.int .i64 0,.int .i64 0,.slice none 0 0,.slice none 0 0] 72 (0,0)))] (by exact⟨(fun _ _ _ h hb=>by obtain⟨p,e,h3,h4⟩:=h;exact⟨p,e,h3,qb h4 hb⟩),trivial⟩) hwr Nl ?_ ?_
   ·repeat' (with_reducible first|exact qt|refine qn ?_ ?_)
    all_goals try
     intro A x W hA hW hBW hdep D K hK;have a1:=hA.2 1 (by decide);conv at a1=>rhs;whnf
     have a14:=hA.2 14 (by decide);conv at a14=>rhs;whnf
     simp only[QI,QU]at D;clear hdep hA;first
     | go_simp
       exact hK _ _ BR rfl
     | have y0:=((hb2.trans (hW.mono (by omega))).cell (p:=⟨b,off,none⟩) hbk).trans HZ0.out
       have y1:b<W.heap.size:=by omega
       have y2:IntKind.i64.wrap z0=z0:=by rw[IntKind.wrap_i64];omega
       have y3:=((hb2.trans (hW.mono (by omega))).cell (p:=⟨b,off+1,none⟩) hbk).trans HZ1.out;have y4:IntKind.i64.wrap z1=z1:=by rw[IntKind.wrap_i64];omega
       have y5:=((hb2.trans (hW.mono (by omega))).cell (p:=⟨b,off+2,none⟩) hbk).trans HZ2.out;have y6:IntKind.i64.wrap z2=z2:=by rw[IntKind.wrap_i64];omega
       have y7:=((hb2.trans (hW.mono (by omega))).cell (p:=⟨b,off+3,none⟩) hbk).trans HZ3.out;have y8:IntKind.i64.wrap z3=z3:=by rw[IntKind.wrap_i64];omega
       have y9:IntKind.u32.wrap L4=L4:=u32_wrap_id _ (by omega) (by omega);have y10:=(hW.cell (p:=⟨rb,36,none⟩) hrl).trans R8.out;have y11:rb<W.heap.size:=by omega
       have y12:=((hb2.trans (hW.mono (by omega))).cell (p:=⟨b,off+16,none⟩) hbk).trans HZ16.out;have y13:IntKind.i64.wrap z16=z16:=by rw[IntKind.wrap_i64];omega
       have y14:=(hW.cell (p:=⟨rb,41,none⟩) hrl).trans R9.out;have y15:=((hb2.trans (hW.mono (by omega))).cell (p:=⟨b,off+17,none⟩) hbk).trans HZ17.out;have y16:IntKind.i64.wrap z17=z17:=by rw[IntKind.wrap_i64];omega
       go_simp
       exact hK _ _ BR rfl
    ·intro A x W hA hW hBW hdep _ K hK;have g61:=gv hA hdep 16 61;clear hdep hA;go_simp
     refine(qaK zs _ 4 4 _ (HSL.out W (hb2.trans (hW.mono (by omega)))) hz (by omega) (by omega) (by omega)).mono ?_;rintro r w3 ⟨rfl,rfl⟩
     rw[hL4];exact hK _ _ BR rfl
    ·intro A x W hA hW hBW hdep _ K hK;have g48:=gv hA hdep 3 48;have g52:=gv hA hdep 7 52;have g56:=gv hA hdep 11 56;have g60:=gv hA hdep 15 60;have g63:=gv hA hdep 18 63;have g71:=gv hA hdep 26 71;have g79:=gv hA hdep 34 79;clear hdep hA;refine jj 72 _ rfl #[.int .i64 z0,.int .i64 z1,.int .i64 z2,.int .i64 z3,.int .u32 L4,.int .u64 0,.int .u32 0,.int .i64 z16,.int .i64 z17,.slice none 0 0,.slice none 0 0] ?_ (hK _ _ Br rfl);simp only[List.map_toArray,List.map_cons,List.map_nil,Act.eval,g48,g52,g56,g60,g63,g71,g79];rfl
    ·intro A x W hA hW hBW hdep _ K hK;clear hdep hA;go_simp
     exact hK _ _ (Br.alloc Nl _) ⟨W.heap.size,rfl,hBW,Wn W _⟩
   intro x W hW hBW hall;obtain⟨e15, -⟩:=hall;change (fun u W=> ∃p,u= .pointer (some ⟨p,0,none⟩)∧w2.heap.size≤p∧W.heap[p]? =some (.cells #[.int .i64 0,.int .i64 0,.int .i64 0,.int .i64 0,.int .u32 0,.int .u64 0,.int .u32 0,.int .i64 0,.int .i64 0,.slice none 0 0,.slice none 0 0] 72 (0,0))) (x 15) W at e15
   obtain⟨p,ep,hp1,hp2⟩:=e15;refine qh ?_;simp only[Qi,Act.put,Ls,ep];refine wpList_store_row rfl 72 _ _ rfl p #[.int .i64 z0,.int .i64 z1,.int .i64 z2,.int .i64 z3,.int .u32 L4,.int .u64 0,.int .u32 0,.int .i64 z16,.int .i64 z17,.slice none 0 0,.slice none 0 0] rfl rfl 72 _ hp2 (by kernel_rfl) rfl (by simp[Value.oneCell']) ?_;refine qo ?_;have hB3:Below w2.heap.size w2 (W.setRow p #[.int .i64 z0,.int .i64 z1,.int .i64 z2,.int .i64 z3,.int .u32 L4,.int .u64 0,.int .u32 0,.int .i64 z16,.int .i64 z17,.slice none 0 0,.slice none 0 0]):=below_setRow hW hp1 _;have hR3:=setRow_heap W p _ #[.int .i64 z0,.int .i64 z1,.int .i64 z2,.int .i64 z3,.int .u32 L4,.int .u64 0,.int .u32 0,.int .i64 z16,.int .i64 z17,.slice none 0 0,.slice none 0 0] _ _ hp2;generalize W.setRow p #[.int .i64 z0,.int .i64 z1,.int .i64 z2,.int .i64 z3,.int .u32 L4,.int .u64 0,.int .u32 0,.int .i64 z16,.int .i64 z17,.slice none 0 0,.slice none 0 0]=W3 at hB3 hR3⊢;clear ep hp2 hW hBW x W hwr;have hs3:=hB3.size;have hp3:p<W3.heap.size:=(Ai hR3).1;have c5:=qa hR3 5;have f5:=frozen_of_row W3 p 5 _ _ hR3;have c27:=(hB3.cell (p:=⟨rb,27,none⟩) hrl).trans R6.out;have krb:rb<W3.heap.size:=by omega
   go_upto_region 14 with(fail)
   go_wp2_with fail
   refine(qaK zs _ 8 8 _ (HSL.out _ (hb2.trans (hB3.mono (by omega)))) hz (by omega) (by omega) (by omega)).mono ?_;rintro r w3 ⟨rfl,hw⟩;rw[hw];clear hw w3;rw[hOF];go_upto_region 15 with(fail)
   have hB4:Below w2.heap.size w2 (W3.setCell ⟨p,5,none⟩ (.int .u64 OF)):=hB3.setCell hp1 _;have hR4:(W3.setCell ⟨p,5,none⟩ (.int .u64 OF)).heap[p]? =some (.cells #[.int .i64 z0,.int .i64 z1,.int .i64 z2,.int .i64 z3,.int .u32 L4,.int .u64 OF,.int .u32 0,.int .i64 z16,.int .i64 z17,.slice none 0 0,.slice none 0 0] 72 (0,0)):=heap_setCell_same W3 p 5 _ _ _ hR3;generalize W3.setCell ⟨p,5,none⟩ (.int .u64 OF)=W4 at hB4 hR4⊢;clear c5 f5 c27 krb hs3 hp3 hR3 hB3 W3;have hs4:=hB4.size;have hp4:p<W4.heap.size:=(Ai hR4).1;have k9:0≤(cap:Int):=by omega
   have k10:64≤(cap:Int):=by omega
   have k11:48≤(cap:Int):=by omega
   have hcn1: ¬cap=32:=by omega
   have hcn2: ¬cap=48:=by omega
   go_upto_region 20 with(fail)
   refine Zy (n:=16) (R:=fun W=>Below w2.heap.size w2 W∧ ∃o9,W.heap[p]? =some (.cells #[.int .i64 z0,.int .i64 z1,.int .i64 z2,.int .i64 z3,.int .u32 L4,.int .u64 OF,.int .u32 0,.int .i64 z16,.int .i64 z17,o9,.slice none 0 0] 72 (0,0))) [.v 108 (.slice (some ⟨b,off,none⟩) 64 cap),.v 109 (.int .i64 64),.v 110 (.int .i64 16),.v 111 (.int .i64 32),.v 112 (.int .i64 32),.v 113 (.int .i64 64),.v 114 (.int .i64 16),.v 115 (.int .i64 48),.v 116 (.slice (some ⟨b,off+32,none⟩) 16 (cap - 32)),.v 117 (.slice (some ⟨b,off,none⟩) 64 cap),.v 118 (.int .i64 64),.v 119 (.int .i64 16),.v 120 (.int .i64 48),.v 121 (.slice (some ⟨b,off+48,none⟩) 16 (cap - 48)),.v 122 (.pointer (some ⟨p,9,none⟩)),.s (fun W=>W.heap[p]? =some (.cells #[.int .i64 z0,.int .i64 z1,.int .i64 z2,.int .i64 z3,.int .u32 L4,.int .u64 OF,.int .u32 0,.int .i64 z16,.int .i64 z17,.slice (some ⟨b,off+32,none⟩) 16 (cap - 32),.slice none 0 0] 72 (0,0)))] ⟨hB4.drew,_,hR4⟩ ?_ ?_
   ·repeat' (with_reducible first|exact qt|refine qn ?_ ?_)
    all_goals try
     intro A x W hA hR hdep D K hK;have a1:=hA.2 1 (by decide);conv at a1=>rhs;whnf
     have a9:=hA.2 9 (by decide);conv at a9=>rhs;whnf
     have a11:=hA.2 11 (by decide);conv at a11=>rhs;whnf
     have a15:=hA.2 15 (by decide);conv at a15=>rhs;whnf
     simp only[QI,QU]at D;clear hdep hA;go_simp
     exact hK _ _ hR (fun _ _ _ h=>h) rfl
    ·intro A x W hA hR hdep _ K hK;have g122:=gv hA hdep 14 122;have g116:=gv hA hdep 8 116;clear hdep hA;obtain⟨hWb,o9,hrow⟩:=hR;have c9:=qa hrow 9;have f9:=frozen_of_row W p 9 _ _ hrow;go_simp
     exact hK undef _ ⟨hWb.setCell hp1 _,_,heap_setCell_same W p 9 _ _ _ hrow⟩ (fun j u hj h=>match j,hj,h with|0,_,h=>h|1,_,h=>h|2,_,h=>h|3,_,h=>h|4,_,h=>h|5,_,h=>h|6,_,h=>h|7,_,h=>h|8,_,h=>h|9,_,h=>h|10,_,h=>h|11,_,h=>h|12,_,h=>h|13,_,h=>h|14,_,h=>h|15,hj,_=>absurd rfl hj|(_+16),_,h=>h) (heap_setCell_same W p 9 _ _ _ hrow)
   intro x W hR hall;obtain⟨es15, -⟩:=hall;change (fun W=>W.heap[p]? =some (.cells #[.int .i64 z0,.int .i64 z1,.int .i64 z2,.int .i64 z3,.int .u32 L4,.int .u64 OF,.int .u32 0,.int .i64 z16,.int .i64 z17,.slice (some ⟨b,off+32,none⟩) 16 (cap - 32),.slice none 0 0] 72 (0,0))) W at es15
   obtain⟨hWb, -⟩:=hR;have c10:=qa es15 10;have f10:=frozen_of_row W p 10 _ _ es15;refine qh ?_;simp only[Qi,Act.put,Ls];go_wp2_with fail
   refine qh ?_;go_wp2_with fail
   refine qo ?_;have hB5:Below w2.heap.size w2 (W.setCell ⟨p,10,none⟩ (.slice (some ⟨b,off+48,none⟩) 16 (cap - 48))):=hWb.setCell hp1 _;have hR5:(W.setCell ⟨p,10,none⟩ (.slice (some ⟨b,off+48,none⟩) 16 (cap - 48))).heap[p]? =some (.cells #[.int .i64 z0,.int .i64 z1,.int .i64 z2,.int .i64 z3,.int .u32 L4,.int .u64 OF,.int .u32 0,.int .i64 z16,.int .i64 z17,.slice (some ⟨b,off+32,none⟩) 16 (cap - 32),.slice (some ⟨b,off+48,none⟩) 16 (cap - 48)] 72 (0,0)):=heap_setCell_same W p 10 _ _ _ es15;generalize W.setCell ⟨p,10,none⟩ (.slice (some ⟨b,off+48,none⟩) 16 (cap - 48))=W5 at hB5 hR5⊢;clear c10 f10 es15 hWb hR4 hB4;have hs5:=hB5.size;have hp5:p<W5.heap.size:=(Ai hR5).1;go_wp2_with ((with_reducible show wpList _ _ _ (Oper.mk _ (Op.load _ _) _ _ _ _::_) _ _);refine wpList_load_row rfl 72 _ rfl p rfl _ _ _ _ hR5 Tryz.underlying72 rfl (by kernel_rfl) ?_)
   refine(Ju true z0 z1 z2 z3 L4 OF z16 z17 _ _ 16 16 _ _ _ ⟨by simp only[mB,cond];omega,by simp only[mB,cond];omega,by omega,by omega,⟨by omega,fun h=>by cases h⟩,by omega,by simp only[mB,cond];omega⟩ (by decide) (by decide)).mono ?_;rintro e w6 ⟨rfl,hb6⟩;have hR6:=qb hR5 hb6;have hB6:Below w2.heap.size w2 w6:=hB5.trans (hb6.mono hs5);have hR0:w6.heap[b0]? =some (.cells #[.int .i64 0,.int .i64 0,.int .i64 0,.int .i64 0,.int .u32 0,.int .u64 0,.int .u32 0,.int .i64 0,.int .i64 0,.slice none 0 0,.slice none 0 0] 72 (0,0)):=(hB6.block b0 (by omega)).trans HR.out;have hBw:Below b0 w w6:=hb2.trans (hB6.mono (by omega));have hs6:=hB6.size;have kbw: ∀i,i<zs.length→w6.cell? ⟨b,off+i,none⟩=some (.int .u8 (qp zs i)):=fun i hi=>(hBw.cell (p:=⟨b,off+i,none⟩) hbk).trans (HC.out i hi)
   have KB:=hid kbw;clear kbw hb6 hR5 hB5 hs5 hp5;go_wp2_with ((with_reducible show wpList _ _ _ (Oper.mk _ (Op.load _ _) _ _ _ _::_) _ _);refine wpList_load_row rfl 72 _ rfl p rfl _ _ _ _ hR6 Tryz.underlying72 rfl (by kernel_rfl) ?_)
   have hBT:Qs w6 b off zs:=⟨Nat.lt_of_lt_of_le h1 hBw.size,KB.out⟩;have hNM:=J5 z0 z1 z2 z3 L4 OF 0 z16 z17 ((zs.drop 32).take 16) ((zs.drop 48).take 16) b (off+32) (cap - 32) b (off+48) (cap - 48) w6 (ZU hBT (by omega)) (ZU hBT (by omega)) (by rw[QS (by omega)];omega) (by rw[QS (by omega)];omega) (by rw[QS (by omega)];omega) (by rw[QS (by omega)];omega);rw[QS (by omega),QS (by omega)]at hNM;refine hNM.mono ?_;rintro e w7 ⟨sa,pe,rfl,os,op,hb7⟩;clear hNM;obtain⟨a5,n5,k5,rfl⟩:=qs os;obtain⟨a8,n8,k8,rfl⟩:=qs op;have hR7:=qb hR0 hb7;have hB7:Below b0 w w7:=hBw.trans (hb7.mono (by omega));clear os op;go_wp2_with ((with_reducible show wpList _ _ _ (Oper.mk _ (Op.store _ _ _) _ _ _ _::_) _ _);refine wpList_store_row rfl 72 _ _ rfl b0 #[.int .i64 z0,.int .i64 z1,.int .i64 z2,.int .i64 z3,.int .u32 L4,.int .u64 OF,.int .u32 0,.int .i64 z16,.int .i64 z17,.slice a5 n5 k5,.slice a8 n8 k8] rfl rfl 72 _ hR7 (by kernel_rfl) rfl (by simp[Value.oneCell']) ?_)
   exact Bp (Qk rfl _ _ b0 _ _ _ _ rfl (setRow_heap _ b0 _ _ _ _ hR7) Tryz.underlying72 rfl (by kernel_rfl)) rfl ⟨⟨_,_,_,_,_,_,_,_,rfl,rfl,rfl⟩,by rw[hb0];exact below_setRow hB7 Nl _⟩
end Go.Proofs.YtdndeffmlhaipaaGreatDoor
