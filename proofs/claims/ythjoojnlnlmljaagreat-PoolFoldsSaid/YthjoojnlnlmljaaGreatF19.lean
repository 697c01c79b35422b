/- What the program takes from a block of parameters. No condition. -/
import Derived.Test.YthjoojnlnlmljaaGreatF15
import Derived.Test.YthjoojnlnlmljaaGreatF16
import Derived.Test.YthjoojnlnlmljaaGreatF17
set_option linter.all false
set_option maxRecDepth 100000
set_option maxHeartbeats 8000000
namespace Go.Proofs.YthjoojnlnlmljaaGreat
open Go.ChangeShapes Go.WideShapes Go.ChangeAt Go.RowKit Go.Joins Go.Shelf Go.Maps
open Go.Lib (hid)
attribute [local go_sem] Oper.semAt_some
theorem jL (zs:List Int)(b off o:Nat)(w:World)(hB:Qm w b off zs)(hz: ∀z∈zs,0≤z∧z≤255)(bw:32≤o)(bu:(o:Int)≤9223372036854775807)(hl:zs.length=32)(a6:1≤qn zs 0∧qn zs 0≤32)(aW:qn zs 1≤32)(be:1≤qn zs 3)(aS:qn zs 15≤32):
  Calls Tryz.prog 97 #[.int .i64 2,.slice (some ⟨b,off,none⟩) 32 o,.bool false] w fun e w'=>(∃fo dp lf aZ nd aV sa pe,e= .returned (.tuple #[yK (qn zs 0) (qn zs 1) fo dp lf aZ 0 nd aV sa pe,.int .i64 0])∧sa.oneCell'=true∧pe.oneCell'=true)∧Below w.heap.size w w':=by
 obtain⟨h1,h2⟩:=id hB;have HC:=hid h2;have HB:=hid hB;clear h2 hB;obtain⟨S,ap⟩:=Ex (qn zs 0);have ad:0≤S∧S≤255:=by rw[←ap];exact(qQ hz (by omega)).2
 have bd:=hid (show w.cell? ⟨b,off+0,none⟩=some (.int .u8 S) by rw[←ap];exact HC.out 0 (by omega));rw[ap]at a6;try rw[ap]
 obtain⟨z1,ar⟩:=Ex (qn zs 1);have bJ:0≤z1∧z1≤255:=by rw[←ar];exact(qQ hz (by omega)).2
 have bq:=hid (show w.cell? ⟨b,off+1,none⟩=some (.int .u8 z1) by rw[←ar];exact HC.out 1 (by omega));rw[ar]at aW;try rw[ar]
 obtain⟨z2,aC⟩:=Ex (qn zs 2);have aa:0≤z2∧z2≤255:=by rw[←aC];exact(qQ hz (by omega)).2
 have ba:=hid (show w.cell? ⟨b,off+2,none⟩=some (.int .u8 z2) by rw[←aC];exact HC.out 2 (by omega));try rw[aC]
 obtain⟨U,an⟩:=Ex (qn zs 3);have bR:0≤U∧U≤255:=by rw[←an];exact(qQ hz (by omega)).2
 have bb:=hid (show w.cell? ⟨b,off+3,none⟩=some (.int .u8 U) by rw[←an];exact HC.out 3 (by omega));rw[an]at be;try rw[an]
 obtain⟨I,al⟩:=Ex (qn zs 14);have bv:0≤I∧I≤255:=by rw[←al];exact(qQ hz (by omega)).2
 have aT:=hid (show w.cell? ⟨b,off+14,none⟩=some (.int .u8 I) by rw[←al];exact HC.out 14 (by omega));try rw[al]
 obtain⟨G,ah⟩:=Ex (qn zs 15);have bA:0≤G∧G≤255:=by rw[←ah];exact(qQ hz (by omega)).2
 have aR:=hid (show w.cell? ⟨b,off+15,none⟩=some (.int .u8 G) by rw[←ah];exact HC.out 15 (by omega));rw[ah]at aS;try rw[ah]
 obtain⟨V,aN⟩:=Ex (Qa zs 4 4);have bE:0≤V∧V<4294967296:=by rw[←aN];exact QB hz 4 (by omega)
 obtain⟨OF,aG⟩:=Ex (Qa zs 8 6);have bC:0≤OF∧OF<281474976710656:=by rw[←aG];exact QB hz 6 (by omega)
 obtain⟨b0,ad⟩:=Ex w.heap.size;have ab:b<b0:=by rw[←ad];exact h1
 have aP: ∀W,Below b0 w W→Holds8 W (.slice (some ⟨b,off,none⟩) 32 o) zs:=fun W Y=>⟨some ⟨b,off,none⟩,o,by rw[hl],.inr ⟨b,off,rfl,Nat.lt_of_lt_of_le h1 Y.size,fun i hi=>(Y.cell (p:=⟨b,off+i,none⟩) ab).trans (HC.out i hi)⟩⟩
 have aM:=hid aP;clear aP;have hs: ∀w:World,Calls Tryz.prog 126 #[.int .i64 2] w fun e w'=>e= .returned (.tuple #[.int .i64 32,.int .i64 32,.int .i64 8])∧w'=w:=Zw false
 go_enter Tryz.func97,Tryz.ntmps97
 go_wp2_with fail
 refine(qbN false _ _ _ _).mono ?_;rintro e w1 ⟨⟨x,rfl,hx⟩,rfl⟩;obtain rfl:x=0:=hx.2 (by rfl);clear hx;go_wp2_with fail
 refine(hs _).mono ?_;rintro e w1 ⟨rfl,rfl⟩;go_wp2_with fail
 have aE:Below b0 w (w.alloc (.cells #[.int .i64 0,.int .i64 0,.int .i64 0,.int .i64 0,.int .u32 0,.int .u64 0,.int .u32 0,.int .i64 0,.int .i64 0,.slice none 0 0,.slice none 0 0] 171)):=by rw[←ad];exact Br.alloc Nl _
 go_wp2_with fail
 refine(qfg false _).mono ?_;rintro e O ⟨⟨Z,rfl,a4,X⟩,ak⟩;have aO:(w.alloc (.cells #[.int .i64 0,.int .i64 0,.int .i64 0,.int .i64 0,.int .u32 0,.int .u64 0,.int .u32 0,.int .i64 0,.int .i64 0,.slice none 0 0,.slice none 0 0] 171)).heap.size=b0+1:=by simp[ad]
 rw[aO]at a4 ak;have aa:Below b0 w O:=aE.trans (ak.mono (by omega));have bK:b0+1≤O.heap.size:=by rw[←aO];exact ak.size
 have HR:=hid (show O.heap[b0]? =some (.cells #[.int .i64 0,.int .i64 0,.int .i64 0,.int .i64 0,.int .u32 0,.int .u64 0,.int .u32 0,.int .i64 0,.int .i64 0,.slice none 0 0,.slice none 0 0] 171 (0,0)) from(ak.block b0 (by omega)).trans (by rw[←ad];exact Wn w _));have R8:=hid (show O.cell? ⟨Z,36,none⟩=some (.int .i64 14) from(X.2 8 (by decide) (by decide)).2.1);have R9:=hid (show O.cell? ⟨Z,41,none⟩=some (.int .i64 15) from(X.2 9 (by decide) (by decide)).2.1);have R6:=hid (show O.cell? ⟨Z,27,none⟩=some (.int .i64 6) from(X.2 6 (by decide) (by decide)).2.2);have R7:=hid (show O.cell? ⟨Z,31,none⟩=some (.int .i64 12) from(X.2 7 (by decide) (by decide)).2.1);have S7:=hid (show O.cell? ⟨Z,32,none⟩=some (.int .i64 2) from(X.2 7 (by decide) (by decide)).2.2);have ax:=X.1;clear X ak aE;go_wp2_with fail
 have aK:Below O.heap.size O O.drew:=Br.drew;refine qA (n:=37) (w0:=O) (B:=O.heap.size) [.v 45 (.slice (some ⟨b,off,none⟩) 32 o),.v 46 (.pointer (some ⟨b,off,none⟩)),.v 47 (.int .u8 S),.v 48 (.int .i64 S),.v 49 (.slice (some ⟨b,off,none⟩) 32 o),.v 50 (.pointer (some ⟨b,off+1,none⟩)),.v 51 (.int .u8 z1),.v 52 (.int .i64 z1),.v 53 (.slice (some ⟨b,off,none⟩) 32 o),.v 54 (.pointer (some ⟨b,off+2,none⟩)),.v 55 (.int .u8 z2),.v 56 (.int .i64 z2),.v 57 (.slice (some ⟨b,off,none⟩) 32 o),.v 58 (.pointer (some ⟨b,off+3,none⟩)),.v 59 (.int .u8 U),.v 60 (.int .i64 U),.v 61 (.slice (some ⟨b,off,none⟩) 32 o),.v 62 (.int .u64 V),.v 63 (.int .u32 V),.v 64 (.slice (some ⟨b,off,none⟩) 32 o),.v 65 (.slice (some ⟨Z,0,none⟩) 9 9),.v 66 (.pointer (some ⟨Z,35,none⟩)),.v 67 (.pointer (some ⟨Z,36,none⟩)),.v 68 (.int .i64 14),.v 69 (.pointer (some ⟨b,off+14,none⟩)),.v 70 (.int .u8 I),.v 71 (.int .i64 I),.v 72 (.slice (some ⟨b,off,none⟩) 32 o),.v 73 (.slice (some ⟨Z,0,none⟩) 9 9),.v 74 (.pointer (some ⟨Z,40,none⟩)),.v 75 (.pointer (some ⟨Z,41,none⟩)),.v 76 (.int .i64 15),.v 77 (.pointer (some ⟨b,off+15,none⟩)),.v 78 (.int .u8 G),.v 79 (.int .i64 G),.v 80 (.agg #[.int .i64 S,.int .i64 z1,.int .i64 z2,.int .i64 U,.int .u32 V,.int .u64 0,.int .u32 0,.int .i64 I,.int .i64 G,.slice none 0 0,.slice none 0 0]),.p 15 (fun u W=> ∃p,u= .pointer (some ⟨p,0,none⟩)∧O.heap.size≤p∧W.heap[p]? =some (.cells #[.int .i64 0,.int .i64 0,.int .i64 0,.int .i64 0,.int .u32 0,.int .u64 0,.int .u32 0,.int .i64 0,.int .i64 0,.slice none 0 0,.slice none 0 0] 171 (0,0)))] (by exact⟨(fun _ _ _ h hb=>by obtain⟨p,e,h3,h4⟩:=h;exact⟨p,e,h3,qe h4 hb⟩),trivial⟩) aK Nl ?_ ?_
 ·repeat' (with_reducible first|exact qx|refine qt ?_ ?_)
  all_goals try
   intro A x W J Y af q D K hK;have a1:=J.2 1 (by decide);conv at a1=>rhs;whnf
   have bn:=J.2 14 (by decide);conv at bn=>rhs;whnf
   simp only[QJ,QS]at D;clear q J;first
   | go_simp
     exact hK _ _ BR rfl
   | have y0:=((aa.trans (Y.mono (by omega))).cell (p:=⟨b,off,none⟩) ab).trans bd.out
     have y1:b<W.heap.size:=by omega
     have y2:IntKind.i64.wrap S=S:=by rw[IntKind.wrap_i64];omega
     have y3:=((aa.trans (Y.mono (by omega))).cell (p:=⟨b,off+1,none⟩) ab).trans bq.out;have y4:IntKind.i64.wrap z1=z1:=by rw[IntKind.wrap_i64];omega
     have y5:=((aa.trans (Y.mono (by omega))).cell (p:=⟨b,off+2,none⟩) ab).trans ba.out;have y6:IntKind.i64.wrap z2=z2:=by rw[IntKind.wrap_i64];omega
     have y7:=((aa.trans (Y.mono (by omega))).cell (p:=⟨b,off+3,none⟩) ab).trans bb.out;have y8:IntKind.i64.wrap U=U:=by rw[IntKind.wrap_i64];omega
     have y9:IntKind.u32.wrap V=V:=u32_wrap_id _ (by omega) (by omega);have bG:=(Y.cell (p:=⟨Z,36,none⟩) ax).trans R8.out;have bH:Z<W.heap.size:=by omega
     have bI:=((aa.trans (Y.mono (by omega))).cell (p:=⟨b,off+14,none⟩) ab).trans aT.out;have bV:IntKind.i64.wrap I=I:=by rw[IntKind.wrap_i64];omega
     have bL:=(Y.cell (p:=⟨Z,41,none⟩) ax).trans R9.out;have bM:=((aa.trans (Y.mono (by omega))).cell (p:=⟨b,off+15,none⟩) ab).trans aR.out;have bQ:IntKind.i64.wrap G=G:=by rw[IntKind.wrap_i64];omega
     go_simp
     exact hK _ _ BR rfl
  ·intro A x W J Y af q _ K hK;have bT:=gv J q 16 61;clear q J;go_simp
   refine(qcO zs _ 4 4 _ (aM.out W (aa.trans (Y.mono (by omega)))) hz (by omega) (by omega) (by omega)).mono ?_;rintro r w3 ⟨rfl,rfl⟩
   rw[aN];exact hK _ _ BR rfl
  ·intro A x W J Y af q _ K hK;have bl:=gv J q 3 48;have bm:=gv J q 7 52;have a3:=gv J q 11 56;have br:=gv J q 15 60;have bp:=gv J q 18 63;have bc:=gv J q 26 71;have bh:=gv J q 34 79;clear q J;refine Y8 171 _ rfl #[.int .i64 S,.int .i64 z1,.int .i64 z2,.int .i64 U,.int .u32 V,.int .u64 0,.int .u32 0,.int .i64 I,.int .i64 G,.slice none 0 0,.slice none 0 0] ?_ (hK _ _ Br rfl);simp only[List.map_toArray,List.map_cons,List.map_nil,Act.eval,bl,bm,a3,br,bp,bc,bh];rfl
  ·intro A x W J Y af q _ K hK;clear q J;go_simp
   exact hK _ _ (Br.alloc Nl _) ⟨W.heap.size,rfl,af,Wn W _⟩
 intro x W Y af am;obtain⟨aH, -⟩:=am;change (fun u W=> ∃p,u= .pointer (some ⟨p,0,none⟩)∧O.heap.size≤p∧W.heap[p]? =some (.cells #[.int .i64 0,.int .i64 0,.int .i64 0,.int .i64 0,.int .u32 0,.int .u64 0,.int .u32 0,.int .i64 0,.int .i64 0,.slice none 0 0,.slice none 0 0] 171 (0,0))) (x 15) W at aH
 obtain⟨p,ep,ao,aB⟩:=aH;refine qo ?_;simp only[Qx,Act.put,Ls,ep];refine wpList_store_row rfl 171 _ _ rfl p #[.int .i64 S,.int .i64 z1,.int .i64 z2,.int .i64 U,.int .u32 V,.int .u64 0,.int .u32 0,.int .i64 I,.int .i64 G,.slice none 0 0,.slice none 0 0] rfl rfl 171 _ aB (by kernel_rfl) rfl (by simp[Value.oneCell']) ?_;refine qs ?_;have ag:Below O.heap.size O (W.setRow p #[.int .i64 S,.int .i64 z1,.int .i64 z2,.int .i64 U,.int .u32 V,.int .u64 0,.int .u32 0,.int .i64 I,.int .i64 G,.slice none 0 0,.slice none 0 0]):=below_setRow Y ao _;have ae:=setRow_heap W p _ #[.int .i64 S,.int .i64 z1,.int .i64 z2,.int .i64 U,.int .u32 V,.int .u64 0,.int .u32 0,.int .i64 I,.int .i64 G,.slice none 0 0,.slice none 0 0] _ _ aB;generalize W.setRow p #[.int .i64 S,.int .i64 z1,.int .i64 z2,.int .i64 U,.int .u32 V,.int .u64 0,.int .u32 0,.int .i64 I,.int .i64 G,.slice none 0 0,.slice none 0 0]=W3 at ag ae⊢;clear ep aB Y af x W aK;have bj:=ag.size;have bi:p<W3.heap.size:=(Ai ae).1;have c5:=qa ae 5;have f5:=frozen_of_row W3 p 5 _ _ ae;have bt:=(ag.cell (p:=⟨Z,27,none⟩) ax).trans R6.out;have aY:Z<W3.heap.size:=by omega
 go_upto_region 14 with(fail)
 go_wp2_with fail
 refine(qcO zs _ 8 6 _ (aM.out _ (aa.trans (ag.mono (by omega)))) hz (by omega) (by omega) (by omega)).mono ?_;rintro r w3 ⟨rfl,hw⟩;rw[hw];clear hw w3;rw[aG];go_upto_region 15 with(fail)
 have au:Below O.heap.size O (W3.setCell ⟨p,5,none⟩ (.int .u64 OF)):=ag.setCell ao _;have aw:(W3.setCell ⟨p,5,none⟩ (.int .u64 OF)).heap[p]? =some (.cells #[.int .i64 S,.int .i64 z1,.int .i64 z2,.int .i64 U,.int .u32 V,.int .u64 OF,.int .u32 0,.int .i64 I,.int .i64 G,.slice none 0 0,.slice none 0 0] 171 (0,0)):=heap_setCell_same W3 p 5 _ _ _ ae;generalize W3.setCell ⟨p,5,none⟩ (.int .u64 OF)=W4 at au aw⊢;clear c5 f5 bt aY bj bi ae ag W3;have bP:=au.size;have bN:p<W4.heap.size:=(Ai aw).1;have k9:0≤(o:Int):=by omega
 have bO:32≤(o:Int):=by omega
 have bS:24≤(o:Int):=by omega
 have bz: ¬o=16:=by omega
 have bD: ¬o=24:=by omega
 go_upto_region 20 with(fail)
 refine jN (n:=16) (R:=fun W=>Below O.heap.size O W∧ ∃o9,W.heap[p]? =some (.cells #[.int .i64 S,.int .i64 z1,.int .i64 z2,.int .i64 U,.int .u32 V,.int .u64 OF,.int .u32 0,.int .i64 I,.int .i64 G,o9,.slice none 0 0] 171 (0,0))) [.v 108 (.slice (some ⟨b,off,none⟩) 32 o),.v 109 (.int .i64 32),.v 110 (.int .i64 8),.v 111 (.int .i64 16),.v 112 (.int .i64 16),.v 113 (.int .i64 32),.v 114 (.int .i64 8),.v 115 (.int .i64 24),.v 116 (.slice (some ⟨b,off+16,none⟩) 8 (o - 16)),.v 117 (.slice (some ⟨b,off,none⟩) 32 o),.v 118 (.int .i64 32),.v 119 (.int .i64 8),.v 120 (.int .i64 24),.v 121 (.slice (some ⟨b,off+24,none⟩) 8 (o - 24)),.v 122 (.pointer (some ⟨p,9,none⟩)),.s (fun W=>W.heap[p]? =some (.cells #[.int .i64 S,.int .i64 z1,.int .i64 z2,.int .i64 U,.int .u32 V,.int .u64 OF,.int .u32 0,.int .i64 I,.int .i64 G,.slice (some ⟨b,off+16,none⟩) 8 (o - 16),.slice none 0 0] 171 (0,0)))] ⟨au.drew,_,aw⟩ ?_ ?_
 ·repeat' (with_reducible first|exact qx|refine qt ?_ ?_)
  all_goals try
   intro A x W J hR q D K hK;have a1:=J.2 1 (by decide);conv at a1=>rhs;whnf
   have a9:=J.2 9 (by decide);conv at a9=>rhs;whnf
   have bo:=J.2 11 (by decide);conv at bo=>rhs;whnf
   have aU:=J.2 15 (by decide);conv at aU=>rhs;whnf
   simp only[QJ,QS]at D;clear q J;go_simp
   exact hK _ _ hR (fun _ _ _ h=>h) rfl
  ·intro A x W J hR q _ K hK;have bF:=gv J q 14 122;have bx:=gv J q 8 116;clear q J;obtain⟨aq,o9,ai⟩:=hR;have c9:=qa ai 9;have f9:=frozen_of_row W p 9 _ _ ai;go_simp
   exact hK undef _ ⟨aq.setCell ao _,_,heap_setCell_same W p 9 _ _ _ ai⟩ (fun j u hj h=>match j,hj,h with|0,_,h=>h|1,_,h=>h|2,_,h=>h|3,_,h=>h|4,_,h=>h|5,_,h=>h|6,_,h=>h|7,_,h=>h|8,_,h=>h|9,_,h=>h|10,_,h=>h|11,_,h=>h|12,_,h=>h|13,_,h=>h|14,_,h=>h|15,hj,_=>absurd rfl hj|(_+16),_,h=>h) (heap_setCell_same W p 9 _ _ _ ai)
 intro x W hR am;obtain⟨ac, -⟩:=am;change (fun W=>W.heap[p]? =some (.cells #[.int .i64 S,.int .i64 z1,.int .i64 z2,.int .i64 U,.int .u32 V,.int .u64 OF,.int .u32 0,.int .i64 I,.int .i64 G,.slice (some ⟨b,off+16,none⟩) 8 (o - 16),.slice none 0 0] 171 (0,0))) W at ac
 obtain⟨aq, -⟩:=hR;have bg:=qa ac 10;have aX:=frozen_of_row W p 10 _ _ ac;refine qo ?_;simp only[Qx,Act.put,Ls];go_wp2_with fail
 refine qo ?_;go_wp2_with fail
 refine qs ?_;have av:Below O.heap.size O (W.setCell ⟨p,10,none⟩ (.slice (some ⟨b,off+24,none⟩) 8 (o - 24))):=aq.setCell ao _;have aj:(W.setCell ⟨p,10,none⟩ (.slice (some ⟨b,off+24,none⟩) 8 (o - 24))).heap[p]? =some (.cells #[.int .i64 S,.int .i64 z1,.int .i64 z2,.int .i64 U,.int .u32 V,.int .u64 OF,.int .u32 0,.int .i64 I,.int .i64 G,.slice (some ⟨b,off+16,none⟩) 8 (o - 16),.slice (some ⟨b,off+24,none⟩) 8 (o - 24)] 171 (0,0)):=heap_setCell_same W p 10 _ _ _ ac;generalize W.setCell ⟨p,10,none⟩ (.slice (some ⟨b,off+24,none⟩) 8 (o - 24))=W5 at av aj⊢;clear bg aX ac aq aw au;have aJ:=av.size;have bf:p<W5.heap.size:=(Ai aj).1;go_wp2_with ((with_reducible show wpList _ _ _ (Oper.mk _ (Op.load _ _) _ _ _ _::_) _ _);refine wpList_load_row rfl 171 _ rfl p rfl _ _ _ _ aj Tryz.underlying171 rfl (by kernel_rfl) ?_)
 refine(qa9 false S z1 z2 U V OF I G _ _ 8 8 _ _ _ ⟨by simp only[mB,cond];omega,by simp only[mB,cond];omega,by omega,by omega,⟨by omega,fun h=>by omega⟩,by omega,by simp only[mB,cond];omega⟩ (by decide) (by decide)).mono ?_;rintro e w6 ⟨rfl,aA⟩;have bk:=qe aj aA;have ay:Below O.heap.size O w6:=av.trans (aA.mono aJ);have bs:w6.heap[b0]? =some (.cells #[.int .i64 0,.int .i64 0,.int .i64 0,.int .i64 0,.int .u32 0,.int .u64 0,.int .u32 0,.int .i64 0,.int .i64 0,.slice none 0 0,.slice none 0 0] 171 (0,0)):=(ay.block b0 (by omega)).trans HR.out;have aD:Below b0 w w6:=aa.trans (ay.mono (by omega));have bU:=ay.size;have aQ: ∀i,i<zs.length→w6.cell? ⟨b,off+i,none⟩=some (.int .u8 (qn zs i)):=fun i hi=>(aD.cell (p:=⟨b,off+i,none⟩) ab).trans (HC.out i hi)
 have KB:=hid aQ;clear aQ aA aj av aJ bf;go_wp2_with ((with_reducible show wpList _ _ _ (Oper.mk _ (Op.load _ _) _ _ _ _::_) _ _);refine wpList_load_row rfl 171 _ rfl p rfl _ _ _ _ bk Tryz.underlying171 rfl (by kernel_rfl) ?_)
 have aL:Qm w6 b off zs:=⟨Nat.lt_of_lt_of_le h1 aD.size,KB.out⟩;have az:=qbT S z1 z2 U V OF 0 I G ((zs.drop 16).take 8) ((zs.drop 24).take 8) b (off+16) (o - 16) b (off+24) (o - 24) w6 (YK aL (by omega)) (YK aL (by omega)) (by rw[Qr (by omega)];omega) (by rw[Qr (by omega)];omega) (by rw[Qr (by omega)];omega) (by rw[Qr (by omega)];omega);rw[Qr (by omega),Qr (by omega)]at az;refine az.mono ?_;rintro e w7 ⟨sa,pe,rfl,os,op,aI⟩;clear az;obtain⟨a5,n5,k5,rfl⟩:=qu os;obtain⟨a8,n8,k8,rfl⟩:=qu op;have aF:=qe bs aI;have a7:Below b0 w w7:=aD.trans (aI.mono (by omega));clear os op;go_wp2_with ((with_reducible show wpList _ _ _ (Oper.mk _ (Op.store _ _ _) _ _ _ _::_) _ _);refine wpList_store_row rfl 171 _ _ rfl b0 #[.int .i64 S,.int .i64 z1,.int .i64 z2,.int .i64 U,.int .u32 V,.int .u64 OF,.int .u32 0,.int .i64 I,.int .i64 G,.slice a5 n5 k5,.slice a8 n8 k8] rfl rfl 171 _ aF (by kernel_rfl) rfl (by simp[Value.oneCell']) ?_)
 exact Bp (qC rfl _ _ b0 _ _ _ _ rfl (setRow_heap _ b0 _ _ _ _ aF) Tryz.underlying171 rfl (by kernel_rfl)) rfl ⟨⟨_,_,_,_,_,_,_,_,rfl,rfl,rfl⟩,by rw[ad];exact below_setRow a7 Nl _⟩
end Go.Proofs.YthjoojnlnlmljaaGreat
