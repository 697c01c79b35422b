/- What the program takes from a block of parameters. No condition. -/
import Derived.Test.YthjoojnlnlmljaaGreatP00
import Derived.Test.YthjoojnlnlmljaaGreatP01
import Derived.Test.YthjoojnlnlmljaaGreatB23
import Derived.Test.YthjoojnlnlmljaaGreatB24
import Derived.Test.YthjoojnlnlmljaaGreatB25
set_option linter.all false
set_option maxRecDepth 100000
set_option maxHeartbeats 8000000
namespace Go.Proofs.YthjoojnlnlmljaaGreat
open Go.ChangeShapes Go.WideShapes Go.ChangeAt Go.RowKit Go.Joins Go.Shelf Go.Maps
open Go.Lib (hid)
attribute [local go_sem] Oper.semAt_some
theorem JB (zs:List Int)(b off o:Nat)(w:World)(hB:Qx w b off zs)(hz: ∀z∈zs,0≤z∧z≤255)(bv:32≤o)(bu:(o:Int)≤9223372036854775807)(hl:zs.length=32)(be:1≤qp zs 0∧qp zs 0≤32)(bo:qp zs 1≤32)(aV:1≤qp zs 3)(aT:qp zs 15≤32):
  Calls Tryz.prog 97 #[.int .i64 2,.slice (some ⟨b,off,none⟩) 32 o,.bool false] w fun e w'=>(∃fo dp lf aY nd bh sa pe,e= .returned (.tuple #[parV (qp zs 0) (qp zs 1) fo dp lf aY 0 nd bh sa pe,.int .i64 0])∧sa.oneCell'=true∧pe.oneCell'=true)∧Below w.heap.size w w':=by
 obtain⟨h1,h2⟩:=id hB;have HC:=hid h2;have HB:=hid hB;clear h2 hB;obtain⟨S,ap⟩:=Ex (qp zs 0);have ad:0≤S∧S≤255:=by rw[←ap];exact(qZ hz (by omega)).2
 have aX:=hid (show w.cell? ⟨b,off+0,none⟩=some (.int .u8 S) by rw[←ap];exact HC.out 0 (by omega));rw[ap]at be;try rw[ap]
 obtain⟨z1,aq⟩:=Ex (qp zs 1);have bP:0≤z1∧z1≤255:=by rw[←aq];exact(qZ hz (by omega)).2
 have bl:=hid (show w.cell? ⟨b,off+1,none⟩=some (.int .u8 z1) by rw[←aq];exact HC.out 1 (by omega));rw[aq]at bo;try rw[aq]
 obtain⟨z2,ay⟩:=Ex (qp zs 2);have aa:0≤z2∧z2≤255:=by rw[←ay];exact(qZ hz (by omega)).2
 have bc:=hid (show w.cell? ⟨b,off+2,none⟩=some (.int .u8 z2) by rw[←ay];exact HC.out 2 (by omega));try rw[ay]
 obtain⟨U,ao⟩:=Ex (qp zs 3);have bH:0≤U∧U≤255:=by rw[←ao];exact(qZ hz (by omega)).2
 have ba:=hid (show w.cell? ⟨b,off+3,none⟩=some (.int .u8 U) by rw[←ao];exact HC.out 3 (by omega));rw[ao]at aV;try rw[ao]
 obtain⟨I,am⟩:=Ex (qp zs 14);have bx:0≤I∧I≤255:=by rw[←am];exact(qZ hz (by omega)).2
 have aR:=hid (show w.cell? ⟨b,off+14,none⟩=some (.int .u8 I) by rw[←am];exact HC.out 14 (by omega));try rw[am]
 obtain⟨G,ah⟩:=Ex (qp zs 15);have bF:0≤G∧G≤255:=by rw[←ah];exact(qZ hz (by omega)).2
 have aS:=hid (show w.cell? ⟨b,off+15,none⟩=some (.int .u8 G) by rw[←ah];exact HC.out 15 (by omega));rw[ah]at aT;try rw[ah]
 obtain⟨V,aQ⟩:=Ex (qO zs 4 4);have bw:0≤V∧V<4294967296:=by rw[←aQ];exact Qy hz 4 (by omega)
 obtain⟨OF,aF⟩:=Ex (qO zs 8 6);have bC:0≤OF∧OF<281474976710656:=by rw[←aF];exact Qy hz 6 (by omega)
 obtain⟨b0,ad⟩:=Ex w.heap.size;have ab:b<b0:=by rw[←ad];exact h1
 have aK: ∀W,Below b0 w W→Holds8 W (.slice (some ⟨b,off,none⟩) 32 o) zs:=fun W Y=>⟨some ⟨b,off,none⟩,o,by rw[hl],.inr ⟨b,off,rfl,Nat.lt_of_lt_of_le h1 Y.size,fun i hi=>(Y.cell (p:=⟨b,off+i,none⟩) ab).trans (HC.out i hi)⟩⟩
 have aM:=hid aK;clear aK;have hs: ∀w:World,Calls Tryz.prog 126 #[.int .i64 2] w fun e w'=>e= .returned (.tuple #[.int .i64 32,.int .i64 32,.int .i64 8])∧w'=w:=jf false
 go_enter Tryz.func97,Tryz.ntmps97
 go_wp2_with fail
 refine(qcQ false _ _ _ _).mono ?_;rintro e w1 ⟨⟨x,rfl,hx⟩,rfl⟩;obtain rfl:x=0:=hx.2 (by rfl);clear hx;go_wp2_with fail
 refine(hs _).mono ?_;rintro e w1 ⟨rfl,rfl⟩;go_wp2_with fail
 have aJ:Below b0 w (w.alloc (.cells Kb 171)):=by rw[←ad];exact Br.alloc Nl _
 go_wp2_with fail
 refine(qgH false _).mono ?_;rintro e O ⟨⟨Z,rfl,bn,X⟩,ak⟩;have aG:(w.alloc (.cells Kb 171)).heap.size=b0+1:=by simp[ad]
 rw[aG]at bn ak;have aa:Below b0 w O:=aJ.trans (ak.mono (by omega));have bM:b0+1≤O.heap.size:=by rw[←aG];exact ak.size
 have HR:=hid (show O.heap[b0]? =some (.cells Kb 171 (0,0)) from(ak.block b0 (by omega)).trans (by rw[←ad];exact Wn w _));have R8:=hid (show O.cell? ⟨Z,36,none⟩=some (.int .i64 14) from(X.2 8 (by decide) (by decide)).2.1);have R9:=hid (show O.cell? ⟨Z,41,none⟩=some (.int .i64 15) from(X.2 9 (by decide) (by decide)).2.1);have R6:=hid (show O.cell? ⟨Z,27,none⟩=some (.int .i64 6) from(X.2 6 (by decide) (by decide)).2.2);have R7:=hid (show O.cell? ⟨Z,31,none⟩=some (.int .i64 12) from(X.2 7 (by decide) (by decide)).2.1);have S7:=hid (show O.cell? ⟨Z,32,none⟩=some (.int .i64 2) from(X.2 7 (by decide) (by decide)).2.2);have aB:=X.1;clear X ak aJ;go_wp2_with fail
 have aH:Below O.heap.size O O.drew:=Br.drew;refine qI (n:=37) (w0:=O) (B:=O.heap.size) [.v 45 (.slice (some ⟨b,off,none⟩) 32 o),.z 46 b off,.v 47 (.int .u8 S),.v 48 (.int .i64 S),.v 49 (.slice (some ⟨b,off,none⟩) 32 o),.z 50 b (off+1),.v 51 (.int .u8 z1),.v 52 (.int .i64 z1),.v 53 (.slice (some ⟨b,off,none⟩) 32 o),.z 54 b (off+2),.v 55 (.int .u8 z2),.v 56 (.int .i64 z2),.v 57 (.slice (some ⟨b,off,none⟩) 32 o),.z 58 b (off+3),.v 59 (.int .u8 U),.v 60 (.int .i64 U),.v 61 (.slice (some ⟨b,off,none⟩) 32 o),.v 62 (.int .u64 V),.v 63 (.int .u32 V),.v 64 (.slice (some ⟨b,off,none⟩) 32 o),.v 65 (.slice (some ⟨Z,0,none⟩) 9 9),.z 66 Z 35,.z 67 Z 36,.v 68 (.int .i64 14),.z 69 b (off+14),.v 70 (.int .u8 I),.v 71 (.int .i64 I),.v 72 (.slice (some ⟨b,off,none⟩) 32 o),.v 73 (.slice (some ⟨Z,0,none⟩) 9 9),.z 74 Z 40,.z 75 Z 41,.v 76 (.int .i64 15),.z 77 b (off+15),.v 78 (.int .u8 G),.v 79 (.int .i64 G),.v 80 (.agg #[.int .i64 S,.int .i64 z1,.int .i64 z2,.int .i64 U,.int .u32 V,.int .u64 0,.int .u32 0,.int .i64 I,.int .i64 G,.slice none 0 0,.slice none 0 0]),.p 15 (fun u W=> ∃p,u= .pointer (some ⟨p,0,none⟩)∧O.heap.size≤p∧W.heap[p]? =some (.cells Kb 171 (0,0)))] (by exact⟨(fun _ _ _ h hb=>by obtain⟨p,e,h3,h4⟩:=h;exact⟨p,e,h3,qf h4 hb⟩),trivial⟩) aH Nl ?_ ?_
 ·repeat' (with_reducible first|exact qB|refine qw ?_ ?_)
  all_goals try
   intro A x W J Y ag q D K hK;have a1:=J.2 1 (by decide);conv at a1=>rhs;whnf
   have aW:=J.2 14 (by decide);conv at aW=>rhs;whnf
   simp only[Q7,yk]at D;clear q J;first
   | go_simp
     exact hK _ _ BR rfl
   | have y0:=((aa.trans (Y.mono (by omega))).cell (p:=⟨b,off,none⟩) ab).trans aX.out
     have y1:b<W.heap.size:=by omega
     have y2:IntKind.i64.wrap S=S:=by rw[IntKind.wrap_i64];omega
     have y3:=((aa.trans (Y.mono (by omega))).cell (p:=⟨b,off+1,none⟩) ab).trans bl.out;have y4:IntKind.i64.wrap z1=z1:=by rw[IntKind.wrap_i64];omega
     have y5:=((aa.trans (Y.mono (by omega))).cell (p:=⟨b,off+2,none⟩) ab).trans bc.out;have y6:IntKind.i64.wrap z2=z2:=by rw[IntKind.wrap_i64];omega
     have y7:=((aa.trans (Y.mono (by omega))).cell (p:=⟨b,off+3,none⟩) ab).trans ba.out;have y8:IntKind.i64.wrap U=U:=by rw[IntKind.wrap_i64];omega
     have y9:IntKind.u32.wrap V=V:=u32_wrap_id _ (by omega) (by omega);have bU:=(Y.cell (p:=⟨Z,36,none⟩) aB).trans R8.out;have bG:Z<W.heap.size:=by omega
     have bV:=((aa.trans (Y.mono (by omega))).cell (p:=⟨b,off+14,none⟩) ab).trans aR.out;have bI:IntKind.i64.wrap I=I:=by rw[IntKind.wrap_i64];omega
     have bO:=(Y.cell (p:=⟨Z,41,none⟩) aB).trans R9.out;have bQ:=((aa.trans (Y.mono (by omega))).cell (p:=⟨b,off+15,none⟩) ab).trans aS.out;have bK:IntKind.i64.wrap G=G:=by rw[IntKind.wrap_i64];omega
     go_simp
     exact hK _ _ BR rfl
  ·intro A x W J Y ag q _ K hK;have bT:=gv J q 16 61;clear q J;go_simp
   refine(qdV zs _ 4 4 _ (aM.out W (aa.trans (Y.mono (by omega)))) hz (by omega) (by omega) (by omega)).mono ?_;rintro r w3 ⟨rfl,rfl⟩
   rw[aQ];exact hK _ _ BR rfl
  ·intro A x W J Y ag q _ K hK;have bm:=gv J q 3 48;have bq:=gv J q 7 52;have bf:=gv J q 11 56;have bg:=gv J q 15 60;have bk:=gv J q 18 63;have aU:=gv J q 26 71;have a3:=gv J q 34 79;clear q J;refine z8 171 _ rfl #[.int .i64 S,.int .i64 z1,.int .i64 z2,.int .i64 U,.int .u32 V,.int .u64 0,.int .u32 0,.int .i64 I,.int .i64 G,.slice none 0 0,.slice none 0 0] ?_ (hK _ _ Br rfl);simp only[List.map_toArray,List.map_cons,List.map_nil,Act.eval,bm,bq,bf,bg,bk,aU,a3];rfl
  ·intro A x W J Y ag q _ K hK;clear q J;go_simp
   exact hK _ _ (Br.alloc Nl _) ⟨W.heap.size,rfl,ag,Wn W _⟩
 intro x W Y ag al;obtain⟨aO, -⟩:=al;change (fun u W=> ∃p,u= .pointer (some ⟨p,0,none⟩)∧O.heap.size≤p∧W.heap[p]? =some (.cells Kb 171 (0,0))) (x 15) W at aO
 obtain⟨p,ep,av,az⟩:=aO;refine qr ?_;simp only[QP,Act.put,Ls,ep];refine wpList_store_row rfl 171 _ _ rfl p #[.int .i64 S,.int .i64 z1,.int .i64 z2,.int .i64 U,.int .u32 V,.int .u64 0,.int .u32 0,.int .i64 I,.int .i64 G,.slice none 0 0,.slice none 0 0] rfl rfl 171 _ az (by kernel_rfl) rfl (by simp[Value.oneCell']) ?_;refine qv ?_;have af:Below O.heap.size O (W.setRow p #[.int .i64 S,.int .i64 z1,.int .i64 z2,.int .i64 U,.int .u32 V,.int .u64 0,.int .u32 0,.int .i64 I,.int .i64 G,.slice none 0 0,.slice none 0 0]):=below_setRow Y av _;have ae:=setRow_heap W p _ #[.int .i64 S,.int .i64 z1,.int .i64 z2,.int .i64 U,.int .u32 V,.int .u64 0,.int .u32 0,.int .i64 I,.int .i64 G,.slice none 0 0,.slice none 0 0] _ _ az;generalize W.setRow p #[.int .i64 S,.int .i64 z1,.int .i64 z2,.int .i64 U,.int .u32 V,.int .u64 0,.int .u32 0,.int .i64 I,.int .i64 G,.slice none 0 0,.slice none 0 0]=W3 at af ae⊢;clear ep az Y ag x W aH;have a4:=af.size;have aZ:p<W3.heap.size:=(Ai ae).1;have c5:=qd ae 5;have f5:=frozen_of_row W3 p 5 _ _ ae;have a7:=(af.cell (p:=⟨Z,27,none⟩) aB).trans R6.out;have bp:Z<W3.heap.size:=by omega
 go_upto_region 14 with(fail)
 go_wp2_with fail
 refine(qdV zs _ 8 6 _ (aM.out _ (aa.trans (af.mono (by omega)))) hz (by omega) (by omega) (by omega)).mono ?_;rintro r w3 ⟨rfl,hw⟩;rw[hw];clear hw w3;rw[aF];go_upto_region 15 with(fail)
 have aw:Below O.heap.size O (W3.setCell ⟨p,5,none⟩ (.int .u64 OF)):=af.setCell av _;have an:(W3.setCell ⟨p,5,none⟩ (.int .u64 OF)).heap[p]? =some (.cells #[.int .i64 S,.int .i64 z1,.int .i64 z2,.int .i64 U,.int .u32 V,.int .u64 OF,.int .u32 0,.int .i64 I,.int .i64 G,.slice none 0 0,.slice none 0 0] 171 (0,0)):=heap_setCell_same W3 p 5 _ _ _ ae;generalize W3.setCell ⟨p,5,none⟩ (.int .u64 OF)=W4 at aw an⊢;clear c5 f5 a7 bp a4 aZ ae af W3;have bN:=aw.size;have bL:p<W4.heap.size:=(Ai an).1;have k9:0≤(o:Int):=by omega
 have bJ:32≤(o:Int):=by omega
 have bS:24≤(o:Int):=by omega
 have bE: ¬o=16:=by omega
 have bz: ¬o=24:=by omega
 go_upto_region 20 with(fail)
 refine JF (n:=16) (R:=fun W=>Below O.heap.size O W∧ ∃o9,W.heap[p]? =some (.cells #[.int .i64 S,.int .i64 z1,.int .i64 z2,.int .i64 U,.int .u32 V,.int .u64 OF,.int .u32 0,.int .i64 I,.int .i64 G,o9,.slice none 0 0] 171 (0,0))) [.v 108 (.slice (some ⟨b,off,none⟩) 32 o),.v 109 (.int .i64 32),.v 110 (.int .i64 8),.v 111 (.int .i64 16),.v 112 (.int .i64 16),.v 113 (.int .i64 32),.v 114 (.int .i64 8),.v 115 (.int .i64 24),.v 116 (.slice (some ⟨b,off+16,none⟩) 8 (o - 16)),.v 117 (.slice (some ⟨b,off,none⟩) 32 o),.v 118 (.int .i64 32),.v 119 (.int .i64 8),.v 120 (.int .i64 24),.v 121 (.slice (some ⟨b,off+24,none⟩) 8 (o - 24)),.z 122 p 9,.s (fun W=>W.heap[p]? =some (.cells #[.int .i64 S,.int .i64 z1,.int .i64 z2,.int .i64 U,.int .u32 V,.int .u64 OF,.int .u32 0,.int .i64 I,.int .i64 G,.slice (some ⟨b,off+16,none⟩) 8 (o - 16),.slice none 0 0] 171 (0,0)))] ⟨aw.drew,_,an⟩ ?_ ?_
 ·repeat' (with_reducible first|exact qB|refine qw ?_ ?_)
  all_goals try
   intro A x W J hR q D K hK;have a1:=J.2 1 (by decide);conv at a1=>rhs;whnf
   have a9:=J.2 9 (by decide);conv at a9=>rhs;whnf
   have br:=J.2 11 (by decide);conv at br=>rhs;whnf
   have bb:=J.2 15 (by decide);conv at bb=>rhs;whnf
   simp only[Q7,yk]at D;clear q J;go_simp
   exact hK _ _ hR (fun _ _ _ h=>h) rfl
  ·intro A x W J hR q _ K hK;have bA:=gv J q 14 122;have bD:=gv J q 8 116;clear q J;obtain⟨ar,o9,ai⟩:=hR;have c9:=qd ai 9;have f9:=frozen_of_row W p 9 _ _ ai;go_simp
   exact hK undef _ ⟨ar.setCell av _,_,heap_setCell_same W p 9 _ _ _ ai⟩ (fun j u hj h=>match j,hj,h with|0,_,h=>h|1,_,h=>h|2,_,h=>h|3,_,h=>h|4,_,h=>h|5,_,h=>h|6,_,h=>h|7,_,h=>h|8,_,h=>h|9,_,h=>h|10,_,h=>h|11,_,h=>h|12,_,h=>h|13,_,h=>h|14,_,h=>h|15,hj,_=>absurd rfl hj|(_+16),_,h=>h) (heap_setCell_same W p 9 _ _ _ ai)
 intro x W hR al;obtain⟨ac, -⟩:=al;change (fun W=>W.heap[p]? =some (.cells #[.int .i64 S,.int .i64 z1,.int .i64 z2,.int .i64 U,.int .u32 V,.int .u64 OF,.int .u32 0,.int .i64 I,.int .i64 G,.slice (some ⟨b,off+16,none⟩) 8 (o - 16),.slice none 0 0] 171 (0,0))) W at ac
 obtain⟨ar, -⟩:=hR;have bj:=qd ac 10;have a6:=frozen_of_row W p 10 _ _ ac;refine qr ?_;simp only[QP,Act.put,Ls];go_wp2_with fail
 refine qr ?_;go_wp2_with fail
 refine qv ?_;have au:Below O.heap.size O (W.setCell ⟨p,10,none⟩ (.slice (some ⟨b,off+24,none⟩) 8 (o - 24))):=ar.setCell av _;have aj:(W.setCell ⟨p,10,none⟩ (.slice (some ⟨b,off+24,none⟩) 8 (o - 24))).heap[p]? =some (.cells #[.int .i64 S,.int .i64 z1,.int .i64 z2,.int .i64 U,.int .u32 V,.int .u64 OF,.int .u32 0,.int .i64 I,.int .i64 G,.slice (some ⟨b,off+16,none⟩) 8 (o - 16),.slice (some ⟨b,off+24,none⟩) 8 (o - 24)] 171 (0,0)):=heap_setCell_same W p 10 _ _ _ ac;generalize W.setCell ⟨p,10,none⟩ (.slice (some ⟨b,off+24,none⟩) 8 (o - 24))=W5 at au aj⊢;clear bj a6 ac ar an aw;have aN:=au.size;have bt:p<W5.heap.size:=(Ai aj).1;go_wp2_with (refine L171 p rfl aj ?_)
 refine(qca false S z1 z2 U V OF I G _ _ 8 8 _ _ _ ⟨by simp only[mB,cond];omega,by simp only[mB,cond];omega,by omega,by omega,⟨by omega,fun h=>by omega⟩,by omega,by simp only[mB,cond];omega⟩ (by decide) (by decide)).mono ?_;rintro e w6 ⟨rfl,ax⟩;have bd:=qf aj ax;have aD:Below O.heap.size O w6:=au.trans (ax.mono aN);have bs:w6.heap[b0]? =some (.cells Kb 171 (0,0)):=(aD.block b0 (by omega)).trans HR.out;have aC:Below b0 w w6:=aa.trans (aD.mono (by omega));have bR:=aD.size;have aP: ∀i,i<zs.length→w6.cell? ⟨b,off+i,none⟩=some (.int .u8 (qp zs i)):=fun i hi=>(aC.cell (p:=⟨b,off+i,none⟩) ab).trans (HC.out i hi)
 have KB:=hid aP;clear aP ax aj au aN bt;go_wp2_with (refine L171 p rfl bd ?_)
 have aI:Qx w6 b off zs:=⟨Nat.lt_of_lt_of_le h1 aC.size,KB.out⟩;have aA:=qcX S z1 z2 U V OF 0 I G ((zs.drop 16).take 8) ((zs.drop 24).take 8) b (off+16) (o - 16) b (off+24) (o - 24) w6 (zw aI (by omega)) (zw aI (by omega)) (by rw[QB (by omega)];omega) (by rw[QB (by omega)];omega) (by rw[QB (by omega)];omega) (by rw[QB (by omega)];omega);rw[QB (by omega),QB (by omega)]at aA;refine aA.mono ?_;rintro e w7 ⟨sa,pe,rfl,os,op,aL⟩;clear aA;obtain⟨a5,n5,k5,rfl⟩:=qs os;obtain⟨a8,n8,k8,rfl⟩:=qs op;have aE:=qf bs aL;have bi:Below b0 w w7:=aC.trans (aL.mono (by omega));clear os op;go_wp2_with ((with_reducible show wpList _ _ _ (Oper.mk _ (Op.store _ _ _) _ _ _ _::_) _ _);refine wpList_store_row rfl 171 _ _ rfl b0 #[.int .i64 S,.int .i64 z1,.int .i64 z2,.int .i64 U,.int .u32 V,.int .u64 OF,.int .u32 0,.int .i64 I,.int .i64 G,.slice a5 n5 k5,.slice a8 n8 k8] rfl rfl 171 _ aE (by kernel_rfl) rfl (by simp[Value.oneCell']) ?_)
 exact Bp (qH rfl _ _ b0 _ _ _ _ rfl (setRow_heap _ b0 _ _ _ _ aE) Tryz.underlying171 rfl (by kernel_rfl)) rfl ⟨⟨_,_,_,_,_,_,_,_,rfl,rfl,rfl⟩,by rw[ad];exact below_setRow bi Nl _⟩
end Go.Proofs.YthjoojnlnlmljaaGreat
