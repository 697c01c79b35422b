/- What the program takes from a block of parameters. No condition. -/
import Derived.Test.YthjoojnlnlmljaaGreatG15
import Derived.Test.YthjoojnlnlmljaaGreatG16
import Derived.Test.YthjoojnlnlmljaaGreatG17
set_option linter.all false
set_option maxRecDepth 100000
set_option maxHeartbeats 8000000
namespace Go.Proofs.YthjoojnlnlmljaaGreat
open Go.ChangeShapes Go.WideShapes Go.ChangeAt Go.RowKit Go.Joins Go.Shelf Go.Maps
open Go.Lib (hid)
attribute [local go_sem] Oper.semAt_some
theorem JJ (zs:List Int)(b off o:Nat)(w:World)(hB:Qs w b off zs)(hz: ∀z∈zs,0≤z∧z≤255)(bE:64≤o)(bv:(o:Int)≤9223372036854775807)(hl:zs.length=64)(aT: ∀i,18≤i→i<32→qr zs i=0)(bl:1≤qr zs 0∧qr zs 0≤64)(bg:qr zs 1≤64)(bm:1≤qr zs 3)(aS:qr zs 17≤64):
  Calls Tryz.prog 97 #[.int .i64 1,.slice (some ⟨b,off,none⟩) 64 o,.bool false] w fun e w'=>(∃fo dp lf bt nd bb sa pe,e= .returned (.tuple #[yT (qr zs 0) (qr zs 1) fo dp lf bt 0 nd bb sa pe,.int .i64 0])∧sa.oneCell'=true∧pe.oneCell'=true)∧Below w.heap.size w w':=by
 obtain⟨h1,h2⟩:=id hB;have HC:=hid h2;have HB:=hid hB;clear h2 hB;obtain⟨U,aq⟩:=Ex (qr zs 0);have af:0≤U∧U≤255:=by rw[←aq];exact(qU hz (by omega)).2
 have aW:=hid (show w.cell? ⟨b,off+0,none⟩=some (.int .u8 U) by rw[←aq];exact HC.out 0 (by omega));rw[aq]at bl;try rw[aq]
 obtain⟨z1,aw⟩:=Ex (qr zs 1);have bQ:0≤z1∧z1≤255:=by rw[←aw];exact(qU hz (by omega)).2
 have bj:=hid (show w.cell? ⟨b,off+1,none⟩=some (.int .u8 z1) by rw[←aw];exact HC.out 1 (by omega));rw[aw]at bg;try rw[aw]
 obtain⟨z2,az⟩:=Ex (qr zs 2);have aa:0≤z2∧z2≤255:=by rw[←az];exact(qU hz (by omega)).2
 have bd:=hid (show w.cell? ⟨b,off+2,none⟩=some (.int .u8 z2) by rw[←az];exact HC.out 2 (by omega));try rw[az]
 obtain⟨V,ao⟩:=Ex (qr zs 3);have bS:0≤V∧V≤255:=by rw[←ao];exact(qU hz (by omega)).2
 have bu:=hid (show w.cell? ⟨b,off+3,none⟩=some (.int .u8 V) by rw[←ao];exact HC.out 3 (by omega));rw[ao]at bm;try rw[ao]
 obtain⟨I,am⟩:=Ex (qr zs 16);have bG:0≤I∧I≤255:=by rw[←am];exact(qU hz (by omega)).2
 have aR:=hid (show w.cell? ⟨b,off+16,none⟩=some (.int .u8 I) by rw[←am];exact HC.out 16 (by omega));try rw[am]
 obtain⟨G,ai⟩:=Ex (qr zs 17);have bF:0≤G∧G≤255:=by rw[←ai];exact(qU hz (by omega)).2
 have aU:=hid (show w.cell? ⟨b,off+17,none⟩=some (.int .u8 G) by rw[←ai];exact HC.out 17 (by omega));rw[ai]at aS;try rw[ai]
 obtain⟨X,aJ⟩:=Ex (Qh zs 4 4);have bD:0≤X∧X<4294967296:=by rw[←aJ];exact QH hz 4 (by omega)
 obtain⟨OF,aL⟩:=Ex (Qh zs 8 8);have bw:0≤OF∧OF<18446744073709551616:=by rw[←aL];exact QH hz 8 (by omega)
 obtain⟨b0,af⟩:=Ex w.heap.size;have ab:b<b0:=by rw[←af];exact h1
 have aP: ∀W,Below b0 w W→Holds8 W (.slice (some ⟨b,off,none⟩) 64 o) zs:=fun W Z=>⟨some ⟨b,off,none⟩,o,by rw[hl],.inr ⟨b,off,rfl,Nat.lt_of_lt_of_le h1 Z.size,fun i hi=>(Z.cell (p:=⟨b,off+i,none⟩) ab).trans (HC.out i hi)⟩⟩
 have aQ:=hid aP;clear aP;have hs: ∀w:World,Calls Tryz.prog 126 #[.int .i64 1] w fun e w'=>e= .returned (.tuple #[.int .i64 64,.int .i64 64,.int .i64 16])∧w'=w:=ZK true
 go_enter Tryz.func97,Tryz.ntmps97
 go_wp2_with fail
 refine(qcg true _ _ _ _).mono ?_;rintro e w1 ⟨⟨x,rfl,hx⟩,rfl⟩;obtain rfl:x=0:=hx.2 (by rfl);clear hx;go_wp2_with fail
 refine(hs _).mono ?_;rintro e w1 ⟨rfl,rfl⟩;go_wp2_with fail
 have ay:Below b0 w (w.alloc (.cells #[.int .i64 0,.int .i64 0,.int .i64 0,.int .i64 0,.int .u32 0,.int .u64 0,.int .u32 0,.int .i64 0,.int .i64 0,.slice none 0 0,.slice none 0 0] 171)):=by rw[←af];exact Br.alloc Nl _
 go_loopw [35] (fun i wr=> ∃k:Nat,i= .int .i64 k∧k≤14∧wr=(w.alloc (.cells #[.int .i64 0,.int .i64 0,.int .i64 0,.int .i64 0,.int .u32 0,.int .u64 0,.int .u32 0,.int .i64 0,.int .i64 0,.slice none 0 0,.slice none 0 0] 171))) (fun i _=>14 - (intOf i).toNat)
 case atStart=>exact⟨0,rfl,by omega,rfl⟩
 case round=>
  obtain⟨k,rfl,hk,rfl⟩:=hrel;by_cases bM:k<14
  ·have hc:(w.alloc (.cells #[.int .i64 0,.int .i64 0,.int .i64 0,.int .i64 0,.int .u32 0,.int .u64 0,.int .u32 0,.int .i64 0,.int .i64 0,.slice none 0 0,.slice none 0 0] 171)).cell? ⟨b,off+18+k,none⟩=some (.int .u8 0):=by
    have:=(ay.cell (p:=⟨b,off+(18+k),none⟩) ab).trans (HC.out (18+k) (by omega))
    rw[aT (18+k) (by omega) (by omega),←Nat.add_assoc]at this;exact this
   go_wp2
   exact⟨⟨k+1,rfl,by omega,by trivial⟩,by simp[intOf];omega⟩
  ·obtain rfl:k=14:=by omega
   go_wp2_with fail
   refine(qfP true _).mono ?_;rintro e O ⟨⟨rb,rfl,aX,Y⟩,ak⟩;have aG:(w.alloc (.cells #[.int .i64 0,.int .i64 0,.int .i64 0,.int .i64 0,.int .u32 0,.int .u64 0,.int .u32 0,.int .i64 0,.int .i64 0,.slice none 0 0,.slice none 0 0] 171)).heap.size=b0+1:=by simp[af]
   rw[aG]at aX ak;have aa:Below b0 w O:=ay.trans (ak.mono (by omega));have bJ:b0+1≤O.heap.size:=by rw[←aG];exact ak.size
   have HR:=hid (show O.heap[b0]? =some (.cells #[.int .i64 0,.int .i64 0,.int .i64 0,.int .i64 0,.int .u32 0,.int .u64 0,.int .u32 0,.int .i64 0,.int .i64 0,.slice none 0 0,.slice none 0 0] 171 (0,0)) from(ak.block b0 (by omega)).trans (by rw[←af];exact Wn w _));have R8:=hid (show O.cell? ⟨rb,36,none⟩=some (.int .i64 16) from(Y.2 8 (by decide) (by decide)).2.1);have R9:=hid (show O.cell? ⟨rb,41,none⟩=some (.int .i64 17) from(Y.2 9 (by decide) (by decide)).2.1);have R6:=hid (show O.cell? ⟨rb,27,none⟩=some (.int .i64 8) from(Y.2 6 (by decide) (by decide)).2.2);have R7:=hid (show O.cell? ⟨rb,31,none⟩=some (.int .i64 12) from(Y.2 7 (by decide) (by decide)).2.1);have S7:=hid (show O.cell? ⟨rb,32,none⟩=some (.int .i64 4) from(Y.2 7 (by decide) (by decide)).2.2);have aC:=Y.1;clear Y ak ay;go_wp2_with fail
   have aM:Below O.heap.size O O.drew:=Br.drew;refine qD (n:=37) (w0:=O) (B:=O.heap.size) [.v 45 (.slice (some ⟨b,off,none⟩) 64 o),.v 46 (.pointer (some ⟨b,off,none⟩)),.v 47 (.int .u8 U),.v 48 (.int .i64 U),.v 49 (.slice (some ⟨b,off,none⟩) 64 o),.v 50 (.pointer (some ⟨b,off+1,none⟩)),.v 51 (.int .u8 z1),.v 52 (.int .i64 z1),.v 53 (.slice (some ⟨b,off,none⟩) 64 o),.v 54 (.pointer (some ⟨b,off+2,none⟩)),.v 55 (.int .u8 z2),.v 56 (.int .i64 z2),.v 57 (.slice (some ⟨b,off,none⟩) 64 o),.v 58 (.pointer (some ⟨b,off+3,none⟩)),.v 59 (.int .u8 V),.v 60 (.int .i64 V),.v 61 (.slice (some ⟨b,off,none⟩) 64 o),.v 62 (.int .u64 X),.v 63 (.int .u32 X),.v 64 (.slice (some ⟨b,off,none⟩) 64 o),.v 65 (.slice (some ⟨rb,0,none⟩) 9 9),.v 66 (.pointer (some ⟨rb,35,none⟩)),.v 67 (.pointer (some ⟨rb,36,none⟩)),.v 68 (.int .i64 16),.v 69 (.pointer (some ⟨b,off+16,none⟩)),.v 70 (.int .u8 I),.v 71 (.int .i64 I),.v 72 (.slice (some ⟨b,off,none⟩) 64 o),.v 73 (.slice (some ⟨rb,0,none⟩) 9 9),.v 74 (.pointer (some ⟨rb,40,none⟩)),.v 75 (.pointer (some ⟨rb,41,none⟩)),.v 76 (.int .i64 17),.v 77 (.pointer (some ⟨b,off+17,none⟩)),.v 78 (.int .u8 G),.v 79 (.int .i64 G),.v 80 (.agg #[.int .i64 U,.int .i64 z1,.int .i64 z2,.int .i64 V,.int .u32 X,.int .u64 0,.int .u32 0,.int .i64 I,.int .i64 G,.slice none 0 0,.slice none 0 0]),.p 15 (fun u W=> ∃p,u= .pointer (some ⟨p,0,none⟩)∧O.heap.size≤p∧W.heap[p]? =some (.cells #[.int .i64 0,.int .i64 0,.int .i64 0,.int .i64 0,.int .u32 0,.int .u64 0,.int .u32 0,.int .i64 0,.int .i64 0,.slice none 0 0,.slice none 0 0] 171 (0,0)))] (by exact⟨(fun _ _ _ h hb=>by obtain⟨p,e,h3,h4⟩:=h;exact⟨p,e,h3,qg h4 hb⟩),trivial⟩) aM Nl ?_ ?_
   ·repeat' (with_reducible first|exact qz|refine qx ?_ ?_)
    all_goals try
     intro A x W J Z ae q D K hK;have a1:=J.2 1 (by decide);conv at a1=>rhs;whnf
     have bf:=J.2 14 (by decide);conv at bf=>rhs;whnf
     simp only[QN,QV]at D;clear q J;first
     | go_simp
       exact hK _ _ BR rfl
     | have y0:=((aa.trans (Z.mono (by omega))).cell (p:=⟨b,off,none⟩) ab).trans aW.out
       have y1:b<W.heap.size:=by omega
       have y2:IntKind.i64.wrap U=U:=by rw[IntKind.wrap_i64];omega
       have y3:=((aa.trans (Z.mono (by omega))).cell (p:=⟨b,off+1,none⟩) ab).trans bj.out;have y4:IntKind.i64.wrap z1=z1:=by rw[IntKind.wrap_i64];omega
       have y5:=((aa.trans (Z.mono (by omega))).cell (p:=⟨b,off+2,none⟩) ab).trans bd.out;have y6:IntKind.i64.wrap z2=z2:=by rw[IntKind.wrap_i64];omega
       have y7:=((aa.trans (Z.mono (by omega))).cell (p:=⟨b,off+3,none⟩) ab).trans bu.out;have y8:IntKind.i64.wrap V=V:=by rw[IntKind.wrap_i64];omega
       have y9:IntKind.u32.wrap X=X:=u32_wrap_id _ (by omega) (by omega);have bV:=(Z.cell (p:=⟨rb,36,none⟩) aC).trans R8.out;have bR:rb<W.heap.size:=by omega
       have bH:=((aa.trans (Z.mono (by omega))).cell (p:=⟨b,off+16,none⟩) ab).trans aR.out;have bU:IntKind.i64.wrap I=I:=by rw[IntKind.wrap_i64];omega
       have bP:=(Z.cell (p:=⟨rb,41,none⟩) aC).trans R9.out;have bL:=((aa.trans (Z.mono (by omega))).cell (p:=⟨b,off+17,none⟩) ab).trans aU.out;have bN:IntKind.i64.wrap G=G:=by rw[IntKind.wrap_i64];omega
       go_simp
       exact hK _ _ BR rfl
    ·intro A x W J Z ae q _ K hK;have bT:=gv J q 16 61;clear q J;go_simp
     refine(qdk zs _ 4 4 _ (aQ.out W (aa.trans (Z.mono (by omega)))) hz (by omega) (by omega) (by omega)).mono ?_;rintro r w3 ⟨rfl,rfl⟩
     rw[aJ];exact hK _ _ BR rfl
    ·intro A x W J Z ae q _ K hK;have ba:=gv J q 3 48;have bn:=gv J q 7 52;have bh:=gv J q 11 56;have br:=gv J q 15 60;have bq:=gv J q 18 63;have a3:=gv J q 26 71;have a6:=gv J q 34 79;clear q J;refine zm 171 _ rfl #[.int .i64 U,.int .i64 z1,.int .i64 z2,.int .i64 V,.int .u32 X,.int .u64 0,.int .u32 0,.int .i64 I,.int .i64 G,.slice none 0 0,.slice none 0 0] ?_ (hK _ _ Br rfl);simp only[List.map_toArray,List.map_cons,List.map_nil,Act.eval,ba,bn,bh,br,bq,a3,a6];rfl
    ·intro A x W J Z ae q _ K hK;clear q J;go_simp
     exact hK _ _ (Br.alloc Nl _) ⟨W.heap.size,rfl,ae,Wn W _⟩
   intro x W Z ae al;obtain⟨aN, -⟩:=al;change (fun u W=> ∃p,u= .pointer (some ⟨p,0,none⟩)∧O.heap.size≤p∧W.heap[p]? =some (.cells #[.int .i64 0,.int .i64 0,.int .i64 0,.int .i64 0,.int .u32 0,.int .u64 0,.int .u32 0,.int .i64 0,.int .i64 0,.slice none 0 0,.slice none 0 0] 171 (0,0))) (x 15) W at aN
   obtain⟨p,ep,ar,aD⟩:=aN;refine qp ?_;simp only[QA,Act.put,Ls,ep];refine wpList_store_row rfl 171 _ _ rfl p #[.int .i64 U,.int .i64 z1,.int .i64 z2,.int .i64 V,.int .u32 X,.int .u64 0,.int .u32 0,.int .i64 I,.int .i64 G,.slice none 0 0,.slice none 0 0] rfl rfl 171 _ aD (by kernel_rfl) rfl (by simp[Value.oneCell']) ?_;refine qv ?_;have ag:Below O.heap.size O (W.setRow p #[.int .i64 U,.int .i64 z1,.int .i64 z2,.int .i64 V,.int .u32 X,.int .u64 0,.int .u32 0,.int .i64 I,.int .i64 G,.slice none 0 0,.slice none 0 0]):=below_setRow Z ar _;have ad:=setRow_heap W p _ #[.int .i64 U,.int .i64 z1,.int .i64 z2,.int .i64 V,.int .u32 X,.int .u64 0,.int .u32 0,.int .i64 I,.int .i64 G,.slice none 0 0,.slice none 0 0] _ _ aD;generalize W.setRow p #[.int .i64 U,.int .i64 z1,.int .i64 z2,.int .i64 V,.int .u32 X,.int .u64 0,.int .u32 0,.int .i64 I,.int .i64 G,.slice none 0 0,.slice none 0 0]=W3 at ag ad⊢;clear ep aD Z ae x W aM;have bo:=ag.size;have bs:p<W3.heap.size:=(Ai ad).1;have c5:=qd ad 5;have f5:=frozen_of_row W3 p 5 _ _ ad;have be:=(ag.cell (p:=⟨rb,27,none⟩) aC).trans R6.out;have aV:rb<W3.heap.size:=by omega
   go_upto_region 14 with(fail)
   go_wp2_with fail
   refine(qdk zs _ 8 8 _ (aQ.out _ (aa.trans (ag.mono (by omega)))) hz (by omega) (by omega) (by omega)).mono ?_;rintro r w3 ⟨rfl,hw⟩;rw[hw];clear hw w3;rw[aL];go_upto_region 15 with(fail)
   have an:Below O.heap.size O (W3.setCell ⟨p,5,none⟩ (.int .u64 OF)):=ag.setCell ar _;have ap:(W3.setCell ⟨p,5,none⟩ (.int .u64 OF)).heap[p]? =some (.cells #[.int .i64 U,.int .i64 z1,.int .i64 z2,.int .i64 V,.int .u32 X,.int .u64 OF,.int .u32 0,.int .i64 I,.int .i64 G,.slice none 0 0,.slice none 0 0] 171 (0,0)):=heap_setCell_same W3 p 5 _ _ _ ad;generalize W3.setCell ⟨p,5,none⟩ (.int .u64 OF)=W4 at an ap⊢;clear c5 f5 be aV bo bs ad ag W3;have bI:=an.size;have bK:p<W4.heap.size:=(Ai ap).1;have k9:0≤(o:Int):=by omega
   have bW:64≤(o:Int):=by omega
   have bX:48≤(o:Int):=by omega
   have bA: ¬o=32:=by omega
   have bC: ¬o=48:=by omega
   go_upto_region 20 with(fail)
   refine Jf (n:=16) (R:=fun W=>Below O.heap.size O W∧ ∃o9,W.heap[p]? =some (.cells #[.int .i64 U,.int .i64 z1,.int .i64 z2,.int .i64 V,.int .u32 X,.int .u64 OF,.int .u32 0,.int .i64 I,.int .i64 G,o9,.slice none 0 0] 171 (0,0))) [.v 108 (.slice (some ⟨b,off,none⟩) 64 o),.v 109 (.int .i64 64),.v 110 (.int .i64 16),.v 111 (.int .i64 32),.v 112 (.int .i64 32),.v 113 (.int .i64 64),.v 114 (.int .i64 16),.v 115 (.int .i64 48),.v 116 (.slice (some ⟨b,off+32,none⟩) 16 (o - 32)),.v 117 (.slice (some ⟨b,off,none⟩) 64 o),.v 118 (.int .i64 64),.v 119 (.int .i64 16),.v 120 (.int .i64 48),.v 121 (.slice (some ⟨b,off+48,none⟩) 16 (o - 48)),.v 122 (.pointer (some ⟨p,9,none⟩)),.s (fun W=>W.heap[p]? =some (.cells #[.int .i64 U,.int .i64 z1,.int .i64 z2,.int .i64 V,.int .u32 X,.int .u64 OF,.int .u32 0,.int .i64 I,.int .i64 G,.slice (some ⟨b,off+32,none⟩) 16 (o - 32),.slice none 0 0] 171 (0,0)))] ⟨an.drew,_,ap⟩ ?_ ?_
   ·repeat' (with_reducible first|exact qz|refine qx ?_ ?_)
    all_goals try
     intro A x W J hR q D K hK;have a1:=J.2 1 (by decide);conv at a1=>rhs;whnf
     have a9:=J.2 9 (by decide);conv at a9=>rhs;whnf
     have bc:=J.2 11 (by decide);conv at bc=>rhs;whnf
     have a7:=J.2 15 (by decide);conv at a7=>rhs;whnf
     simp only[QN,QV]at D;clear q J;go_simp
     exact hK _ _ hR (fun _ _ _ h=>h) rfl
    ·intro A x W J hR q _ K hK;have bz:=gv J q 14 122;have bx:=gv J q 8 116;clear q J;obtain⟨av,o9,ah⟩:=hR;have c9:=qd ah 9;have f9:=frozen_of_row W p 9 _ _ ah;go_simp
     exact hK undef _ ⟨av.setCell ar _,_,heap_setCell_same W p 9 _ _ _ ah⟩ (fun j u hj h=>match j,hj,h with|0,_,h=>h|1,_,h=>h|2,_,h=>h|3,_,h=>h|4,_,h=>h|5,_,h=>h|6,_,h=>h|7,_,h=>h|8,_,h=>h|9,_,h=>h|10,_,h=>h|11,_,h=>h|12,_,h=>h|13,_,h=>h|14,_,h=>h|15,hj,_=>absurd rfl hj|(_+16),_,h=>h) (heap_setCell_same W p 9 _ _ _ ah)
   intro x W hR al;obtain⟨ac, -⟩:=al;change (fun W=>W.heap[p]? =some (.cells #[.int .i64 U,.int .i64 z1,.int .i64 z2,.int .i64 V,.int .u32 X,.int .u64 OF,.int .u32 0,.int .i64 I,.int .i64 G,.slice (some ⟨b,off+32,none⟩) 16 (o - 32),.slice none 0 0] 171 (0,0))) W at ac
   obtain⟨av, -⟩:=hR;have bi:=qd ac 10;have aZ:=frozen_of_row W p 10 _ _ ac;refine qp ?_;simp only[QA,Act.put,Ls];go_wp2_with fail
   refine qp ?_;go_wp2_with fail
   refine qv ?_;have au:Below O.heap.size O (W.setCell ⟨p,10,none⟩ (.slice (some ⟨b,off+48,none⟩) 16 (o - 48))):=av.setCell ar _;have aj:(W.setCell ⟨p,10,none⟩ (.slice (some ⟨b,off+48,none⟩) 16 (o - 48))).heap[p]? =some (.cells #[.int .i64 U,.int .i64 z1,.int .i64 z2,.int .i64 V,.int .u32 X,.int .u64 OF,.int .u32 0,.int .i64 I,.int .i64 G,.slice (some ⟨b,off+32,none⟩) 16 (o - 32),.slice (some ⟨b,off+48,none⟩) 16 (o - 48)] 171 (0,0)):=heap_setCell_same W p 10 _ _ _ ac;generalize W.setCell ⟨p,10,none⟩ (.slice (some ⟨b,off+48,none⟩) 16 (o - 48))=W5 at au aj⊢;clear bi aZ ac av ap an;have aF:=au.size;have bk:p<W5.heap.size:=(Ai aj).1;go_wp2_with ((with_reducible show wpList _ _ _ (Oper.mk _ (Op.load _ _) _ _ _ _::_) _ _);refine wpList_load_row rfl 171 _ rfl p rfl _ _ _ _ aj Tryz.underlying171 rfl (by kernel_rfl) ?_)
   refine(qbF true U z1 z2 V X OF I G _ _ 16 16 _ _ _ ⟨by simp only[mB,cond];omega,by simp only[mB,cond];omega,by omega,by omega,⟨by omega,fun h=>by cases h⟩,by omega,by simp only[mB,cond];omega⟩ (by decide) (by decide)).mono ?_;rintro e w6 ⟨rfl,ax⟩;have bp:=qg aj ax;have aE:Below O.heap.size O w6:=au.trans (ax.mono aF);have aY:w6.heap[b0]? =some (.cells #[.int .i64 0,.int .i64 0,.int .i64 0,.int .i64 0,.int .u32 0,.int .u64 0,.int .u32 0,.int .i64 0,.int .i64 0,.slice none 0 0,.slice none 0 0] 171 (0,0)):=(aE.block b0 (by omega)).trans HR.out;have aB:Below b0 w w6:=aa.trans (aE.mono (by omega));have bO:=aE.size;have aH: ∀i,i<zs.length→w6.cell? ⟨b,off+i,none⟩=some (.int .u8 (qr zs i)):=fun i hi=>(aB.cell (p:=⟨b,off+i,none⟩) ab).trans (HC.out i hi)
   have KB:=hid aH;clear aH ax aj au aF bk;go_wp2_with ((with_reducible show wpList _ _ _ (Oper.mk _ (Op.load _ _) _ _ _ _::_) _ _);refine wpList_load_row rfl 171 _ rfl p rfl _ _ _ _ bp Tryz.underlying171 rfl (by kernel_rfl) ?_)
   have aI:Qs w6 b off zs:=⟨Nat.lt_of_lt_of_le h1 aB.size,KB.out⟩;have aA:=qcp U z1 z2 V X OF 0 I G ((zs.drop 32).take 16) ((zs.drop 48).take 16) b (off+32) (o - 32) b (off+48) (o - 48) w6 (YU aI (by omega)) (YU aI (by omega)) (by rw[Qy (by omega)];omega) (by rw[Qy (by omega)];omega) (by rw[Qy (by omega)];omega) (by rw[Qy (by omega)];omega);rw[Qy (by omega),Qy (by omega)]at aA;refine aA.mono ?_;rintro e w7 ⟨sa,pe,rfl,os,op,aO⟩;clear aA;obtain⟨a5,n5,k5,rfl⟩:=qu os;obtain⟨a8,n8,k8,rfl⟩:=qu op;have aK:=qg aY aO;have a4:Below b0 w w7:=aB.trans (aO.mono (by omega));clear os op;go_wp2_with ((with_reducible show wpList _ _ _ (Oper.mk _ (Op.store _ _ _) _ _ _ _::_) _ _);refine wpList_store_row rfl 171 _ _ rfl b0 #[.int .i64 U,.int .i64 z1,.int .i64 z2,.int .i64 V,.int .u32 X,.int .u64 OF,.int .u32 0,.int .i64 I,.int .i64 G,.slice a5 n5 k5,.slice a8 n8 k8] rfl rfl 171 _ aK (by kernel_rfl) rfl (by simp[Value.oneCell']) ?_)
   exact Bp (qE rfl _ _ b0 _ _ _ _ rfl (setRow_heap _ b0 _ _ _ _ aK) Tryz.underlying171 rfl (by kernel_rfl)) rfl ⟨⟨_,_,_,_,_,_,_,_,rfl,rfl,rfl⟩,by rw[af];exact below_setRow a4 Nl _⟩
end Go.Proofs.YthjoojnlnlmljaaGreat
