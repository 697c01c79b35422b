/- What the program takes from a block of parameters. No condition. -/
import Derived.Test.YthjoojnlnlmljaaGreatP00
import Derived.Test.YthjoojnlnlmljaaGreatP01
import Derived.Test.YthjoojnlnlmljaaGreatB23
import Derived.Test.YthjoojnlnlmljaaGreatB24
import Derived.Test.YthjoojnlnlmljaaGreatB25
set_option linter.all false
set_option maxRecDepth 100000
set_option maxHeartbeats 8000000
namespace Go.Proofs.YthjoojnlnlmljaaGreat
open Go.ChangeShapes Go.WideShapes Go.ChangeAt Go.RowKit Go.Joins Go.Shelf Go.Maps
open Go.Lib (hid)
attribute [local go_sem] Oper.semAt_some
theorem J1 (zs:List Int)(b off o:Nat)(w:World)(hB:Qx w b off zs)(hz: ∀z∈zs,0≤z∧z≤255)(bx:64≤o)(bv:(o:Int)≤9223372036854775807)(hl:zs.length=64)(aR: ∀i,18≤i→i<32→qp zs i=0)(bf:1≤qp zs 0∧qp zs 0≤64)(bp:qp zs 1≤64)(aW:1≤qp zs 3)(aU:qp zs 17≤64):
  Calls Tryz.prog 97 #[.int .i64 1,.slice (some ⟨b,off,none⟩) 64 o,.bool false] w fun e w'=>(∃fo dp lf aZ nd bi sa pe,e= .returned (.tuple #[parV (qp zs 0) (qp zs 1) fo dp lf aZ 0 nd bi sa pe,.int .i64 0])∧sa.oneCell'=true∧pe.oneCell'=true)∧Below w.heap.size w w':=by
 obtain⟨h1,h2⟩:=id hB;have HC:=hid h2;have HB:=hid hB;clear h2 hB;obtain⟨S,ap⟩:=Ex (qp zs 0);have ad:0≤S∧S≤255:=by rw[←ap];exact(qZ hz (by omega)).2
 have aY:=hid (show w.cell? ⟨b,off+0,none⟩=some (.int .u8 S) by rw[←ap];exact HC.out 0 (by omega));rw[ap]at bf;try rw[ap]
 obtain⟨z1,aq⟩:=Ex (qp zs 1);have bR:0≤z1∧z1≤255:=by rw[←aq];exact(qZ hz (by omega)).2
 have bm:=hid (show w.cell? ⟨b,off+1,none⟩=some (.int .u8 z1) by rw[←aq];exact HC.out 1 (by omega));rw[aq]at bp;try rw[aq]
 obtain⟨z2,ay⟩:=Ex (qp zs 2);have aa:0≤z2∧z2≤255:=by rw[←ay];exact(qZ hz (by omega)).2
 have bd:=hid (show w.cell? ⟨b,off+2,none⟩=some (.int .u8 z2) by rw[←ay];exact HC.out 2 (by omega));try rw[ay]
 obtain⟨U,ao⟩:=Ex (qp zs 3);have bI:0≤U∧U≤255:=by rw[←ao];exact(qZ hz (by omega)).2
 have bb:=hid (show w.cell? ⟨b,off+3,none⟩=some (.int .u8 U) by rw[←ao];exact HC.out 3 (by omega));rw[ao]at aW;try rw[ao]
 obtain⟨G,am⟩:=Ex (qp zs 16);have bw:0≤G∧G≤255:=by rw[←am];exact(qZ hz (by omega)).2
 have aT:=hid (show w.cell? ⟨b,off+16,none⟩=some (.int .u8 G) by rw[←am];exact HC.out 16 (by omega));try rw[am]
 obtain⟨I,ai⟩:=Ex (qp zs 17);have bG:0≤I∧I≤255:=by rw[←ai];exact(qZ hz (by omega)).2
 have aS:=hid (show w.cell? ⟨b,off+17,none⟩=some (.int .u8 I) by rw[←ai];exact HC.out 17 (by omega));rw[ai]at aU;try rw[ai]
 obtain⟨V,aQ⟩:=Ex (qO zs 4 4);have bz:0≤V∧V<4294967296:=by rw[←aQ];exact Qy hz 4 (by omega)
 obtain⟨OF,aG⟩:=Ex (qO zs 8 8);have bD:0≤OF∧OF<18446744073709551616:=by rw[←aG];exact Qy hz 8 (by omega)
 obtain⟨b0,ad⟩:=Ex w.heap.size;have ab:b<b0:=by rw[←ad];exact h1
 have aK: ∀W,Below b0 w W→Holds8 W (.slice (some ⟨b,off,none⟩) 64 o) zs:=fun W Y=>⟨some ⟨b,off,none⟩,o,by rw[hl],.inr ⟨b,off,rfl,Nat.lt_of_lt_of_le h1 Y.size,fun i hi=>(Y.cell (p:=⟨b,off+i,none⟩) ab).trans (HC.out i hi)⟩⟩
 have aM:=hid aK;clear aK;have hs: ∀w:World,Calls Tryz.prog 126 #[.int .i64 1] w fun e w'=>e= .returned (.tuple #[.int .i64 64,.int .i64 64,.int .i64 16])∧w'=w:=jf true
 go_enter Tryz.func97,Tryz.ntmps97
 go_wp2_with fail
 refine(qcQ true _ _ _ _).mono ?_;rintro e w1 ⟨⟨x,rfl,hx⟩,rfl⟩;obtain rfl:x=0:=hx.2 (by rfl);clear hx;go_wp2_with fail
 refine(hs _).mono ?_;rintro e w1 ⟨rfl,rfl⟩;go_wp2_with fail
 have az:Below b0 w (w.alloc (.cells Kb 171)):=by rw[←ad];exact Br.alloc Nl _
 go_loopw [35] (fun i wr=> ∃k:Nat,i= .int .i64 k∧k≤14∧wr=(w.alloc (.cells Kb 171))) (fun i _=>14 - (intOf i).toNat)
 case atStart=>exact⟨0,rfl,by omega,rfl⟩
 case round=>
  obtain⟨k,rfl,hk,rfl⟩:=hrel;by_cases bM:k<14
  ·have hc:(w.alloc (.cells Kb 171)).cell? ⟨b,off+18+k,none⟩=some (.int .u8 0):=by
    have:=(az.cell (p:=⟨b,off+(18+k),none⟩) ab).trans (HC.out (18+k) (by omega))
    rw[aR (18+k) (by omega) (by omega),←Nat.add_assoc]at this;exact this
   go_wp2
   exact⟨⟨k+1,rfl,by omega,by trivial⟩,by simp[intOf];omega⟩
  ·obtain rfl:k=14:=by omega
   go_wp2_with fail
   refine(qgH true _).mono ?_;rintro e O ⟨⟨Z,rfl,bo,X⟩,ak⟩;have aH:(w.alloc (.cells Kb 171)).heap.size=b0+1:=by simp[ad]
   rw[aH]at bo ak;have aa:Below b0 w O:=az.trans (ak.mono (by omega));have bO:b0+1≤O.heap.size:=by rw[←aH];exact ak.size
   have HR:=hid (show O.heap[b0]? =some (.cells Kb 171 (0,0)) from(ak.block b0 (by omega)).trans (by rw[←ad];exact Wn w _));have R8:=hid (show O.cell? ⟨Z,36,none⟩=some (.int .i64 16) from(X.2 8 (by decide) (by decide)).2.1);have R9:=hid (show O.cell? ⟨Z,41,none⟩=some (.int .i64 17) from(X.2 9 (by decide) (by decide)).2.1);have R6:=hid (show O.cell? ⟨Z,27,none⟩=some (.int .i64 8) from(X.2 6 (by decide) (by decide)).2.2);have R7:=hid (show O.cell? ⟨Z,31,none⟩=some (.int .i64 12) from(X.2 7 (by decide) (by decide)).2.1);have S7:=hid (show O.cell? ⟨Z,32,none⟩=some (.int .i64 4) from(X.2 7 (by decide) (by decide)).2.2);have aC:=X.1;clear X ak az;go_wp2_with fail
   have aI:Below O.heap.size O O.drew:=Br.drew;refine qI (n:=37) (w0:=O) (B:=O.heap.size) [.v 45 (.slice (some ⟨b,off,none⟩) 64 o),.z 46 b off,.v 47 (.int .u8 S),.v 48 (.int .i64 S),.v 49 (.slice (some ⟨b,off,none⟩) 64 o),.z 50 b (off+1),.v 51 (.int .u8 z1),.v 52 (.int .i64 z1),.v 53 (.slice (some ⟨b,off,none⟩) 64 o),.z 54 b (off+2),.v 55 (.int .u8 z2),.v 56 (.int .i64 z2),.v 57 (.slice (some ⟨b,off,none⟩) 64 o),.z 58 b (off+3),.v 59 (.int .u8 U),.v 60 (.int .i64 U),.v 61 (.slice (some ⟨b,off,none⟩) 64 o),.v 62 (.int .u64 V),.v 63 (.int .u32 V),.v 64 (.slice (some ⟨b,off,none⟩) 64 o),.v 65 (.slice (some ⟨Z,0,none⟩) 9 9),.z 66 Z 35,.z 67 Z 36,.v 68 (.int .i64 16),.z 69 b (off+16),.v 70 (.int .u8 G),.v 71 (.int .i64 G),.v 72 (.slice (some ⟨b,off,none⟩) 64 o),.v 73 (.slice (some ⟨Z,0,none⟩) 9 9),.z 74 Z 40,.z 75 Z 41,.v 76 (.int .i64 17),.z 77 b (off+17),.v 78 (.int .u8 I),.v 79 (.int .i64 I),.v 80 (.agg #[.int .i64 S,.int .i64 z1,.int .i64 z2,.int .i64 U,.int .u32 V,.int .u64 0,.int .u32 0,.int .i64 G,.int .i64 I,.slice none 0 0,.slice none 0 0]),.p 15 (fun u W=> ∃p,u= .pointer (some ⟨p,0,none⟩)∧O.heap.size≤p∧W.heap[p]? =some (.cells Kb 171 (0,0)))] (by exact⟨(fun _ _ _ h hb=>by obtain⟨p,e,h3,h4⟩:=h;exact⟨p,e,h3,qf h4 hb⟩),trivial⟩) aI Nl ?_ ?_
   ·repeat' (with_reducible first|exact qB|refine qw ?_ ?_)
    all_goals try
     intro A x W J Y ag q D K hK;have a1:=J.2 1 (by decide);conv at a1=>rhs;whnf
     have aX:=J.2 14 (by decide);conv at aX=>rhs;whnf
     simp only[Q7,yk]at D;clear q J;first
     | go_simp
       exact hK _ _ BR rfl
     | have y0:=((aa.trans (Y.mono (by omega))).cell (p:=⟨b,off,none⟩) ab).trans aY.out
       have y1:b<W.heap.size:=by omega
       have y2:IntKind.i64.wrap S=S:=by rw[IntKind.wrap_i64];omega
       have y3:=((aa.trans (Y.mono (by omega))).cell (p:=⟨b,off+1,none⟩) ab).trans bm.out;have y4:IntKind.i64.wrap z1=z1:=by rw[IntKind.wrap_i64];omega
       have y5:=((aa.trans (Y.mono (by omega))).cell (p:=⟨b,off+2,none⟩) ab).trans bd.out;have y6:IntKind.i64.wrap z2=z2:=by rw[IntKind.wrap_i64];omega
       have y7:=((aa.trans (Y.mono (by omega))).cell (p:=⟨b,off+3,none⟩) ab).trans bb.out;have y8:IntKind.i64.wrap U=U:=by rw[IntKind.wrap_i64];omega
       have y9:IntKind.u32.wrap V=V:=u32_wrap_id _ (by omega) (by omega);have bW:=(Y.cell (p:=⟨Z,36,none⟩) aC).trans R8.out;have bH:Z<W.heap.size:=by omega
       have bX:=((aa.trans (Y.mono (by omega))).cell (p:=⟨b,off+16,none⟩) ab).trans aT.out;have bJ:IntKind.i64.wrap G=G:=by rw[IntKind.wrap_i64];omega
       have bQ:=(Y.cell (p:=⟨Z,41,none⟩) aC).trans R9.out;have bS:=((aa.trans (Y.mono (by omega))).cell (p:=⟨b,off+17,none⟩) ab).trans aS.out;have bL:IntKind.i64.wrap I=I:=by rw[IntKind.wrap_i64];omega
       go_simp
       exact hK _ _ BR rfl
    ·intro A x W J Y ag q _ K hK;have bV:=gv J q 16 61;clear q J;go_simp
     refine(qdV zs _ 4 4 _ (aM.out W (aa.trans (Y.mono (by omega)))) hz (by omega) (by omega) (by omega)).mono ?_;rintro r w3 ⟨rfl,rfl⟩
     rw[aQ];exact hK _ _ BR rfl
    ·intro A x W J Y ag q _ K hK;have bn:=gv J q 3 48;have br:=gv J q 7 52;have bg:=gv J q 11 56;have bh:=gv J q 15 60;have bl:=gv J q 18 63;have aV:=gv J q 26 71;have a4:=gv J q 34 79;clear q J;refine z8 171 _ rfl #[.int .i64 S,.int .i64 z1,.int .i64 z2,.int .i64 U,.int .u32 V,.int .u64 0,.int .u32 0,.int .i64 G,.int .i64 I,.slice none 0 0,.slice none 0 0] ?_ (hK _ _ Br rfl);simp only[List.map_toArray,List.map_cons,List.map_nil,Act.eval,bn,br,bg,bh,bl,aV,a4];rfl
    ·intro A x W J Y ag q _ K hK;clear q J;go_simp
     exact hK _ _ (Br.alloc Nl _) ⟨W.heap.size,rfl,ag,Wn W _⟩
   intro x W Y ag al;obtain⟨aO, -⟩:=al;change (fun u W=> ∃p,u= .pointer (some ⟨p,0,none⟩)∧O.heap.size≤p∧W.heap[p]? =some (.cells Kb 171 (0,0))) (x 15) W at aO
   obtain⟨p,ep,av,aA⟩:=aO;refine qr ?_;simp only[QP,Act.put,Ls,ep];refine wpList_store_row rfl 171 _ _ rfl p #[.int .i64 S,.int .i64 z1,.int .i64 z2,.int .i64 U,.int .u32 V,.int .u64 0,.int .u32 0,.int .i64 G,.int .i64 I,.slice none 0 0,.slice none 0 0] rfl rfl 171 _ aA (by kernel_rfl) rfl (by simp[Value.oneCell']) ?_;refine qv ?_;have af:Below O.heap.size O (W.setRow p #[.int .i64 S,.int .i64 z1,.int .i64 z2,.int .i64 U,.int .u32 V,.int .u64 0,.int .u32 0,.int .i64 G,.int .i64 I,.slice none 0 0,.slice none 0 0]):=below_setRow Y av _;have ae:=setRow_heap W p _ #[.int .i64 S,.int .i64 z1,.int .i64 z2,.int .i64 U,.int .u32 V,.int .u64 0,.int .u32 0,.int .i64 G,.int .i64 I,.slice none 0 0,.slice none 0 0] _ _ aA;generalize W.setRow p #[.int .i64 S,.int .i64 z1,.int .i64 z2,.int .i64 U,.int .u32 V,.int .u64 0,.int .u32 0,.int .i64 G,.int .i64 I,.slice none 0 0,.slice none 0 0]=W3 at af ae⊢;clear ep aA Y ag x W aI;have a6:=af.size;have a3:p<W3.heap.size:=(Ai ae).1;have c5:=qd ae 5;have f5:=frozen_of_row W3 p 5 _ _ ae;have ba:=(af.cell (p:=⟨Z,27,none⟩) aC).trans R6.out;have bq:Z<W3.heap.size:=by omega
   go_upto_region 14 with(fail)
   go_wp2_with fail
   refine(qdV zs _ 8 8 _ (aM.out _ (aa.trans (af.mono (by omega)))) hz (by omega) (by omega) (by omega)).mono ?_;rintro r w3 ⟨rfl,hw⟩;rw[hw];clear hw w3;rw[aG];go_upto_region 15 with(fail)
   have aw:Below O.heap.size O (W3.setCell ⟨p,5,none⟩ (.int .u64 OF)):=af.setCell av _;have an:(W3.setCell ⟨p,5,none⟩ (.int .u64 OF)).heap[p]? =some (.cells #[.int .i64 S,.int .i64 z1,.int .i64 z2,.int .i64 U,.int .u32 V,.int .u64 OF,.int .u32 0,.int .i64 G,.int .i64 I,.slice none 0 0,.slice none 0 0] 171 (0,0)):=heap_setCell_same W3 p 5 _ _ _ ae;generalize W3.setCell ⟨p,5,none⟩ (.int .u64 OF)=W4 at aw an⊢;clear c5 f5 ba bq a6 a3 ae af W3;have bP:=aw.size;have bN:p<W4.heap.size:=(Ai an).1;have k9:0≤(o:Int):=by omega
   have bK:64≤(o:Int):=by omega
   have bU:48≤(o:Int):=by omega
   have bF: ¬o=32:=by omega
   have bA: ¬o=48:=by omega
   go_upto_region 20 with(fail)
   refine JF (n:=16) (R:=fun W=>Below O.heap.size O W∧ ∃o9,W.heap[p]? =some (.cells #[.int .i64 S,.int .i64 z1,.int .i64 z2,.int .i64 U,.int .u32 V,.int .u64 OF,.int .u32 0,.int .i64 G,.int .i64 I,o9,.slice none 0 0] 171 (0,0))) [.v 108 (.slice (some ⟨b,off,none⟩) 64 o),.v 109 (.int .i64 64),.v 110 (.int .i64 16),.v 111 (.int .i64 32),.v 112 (.int .i64 32),.v 113 (.int .i64 64),.v 114 (.int .i64 16),.v 115 (.int .i64 48),.v 116 (.slice (some ⟨b,off+32,none⟩) 16 (o - 32)),.v 117 (.slice (some ⟨b,off,none⟩) 64 o),.v 118 (.int .i64 64),.v 119 (.int .i64 16),.v 120 (.int .i64 48),.v 121 (.slice (some ⟨b,off+48,none⟩) 16 (o - 48)),.z 122 p 9,.s (fun W=>W.heap[p]? =some (.cells #[.int .i64 S,.int .i64 z1,.int .i64 z2,.int .i64 U,.int .u32 V,.int .u64 OF,.int .u32 0,.int .i64 G,.int .i64 I,.slice (some ⟨b,off+32,none⟩) 16 (o - 32),.slice none 0 0] 171 (0,0)))] ⟨aw.drew,_,an⟩ ?_ ?_
   ·repeat' (with_reducible first|exact qB|refine qw ?_ ?_)
    all_goals try
     intro A x W J hR q D K hK;have a1:=J.2 1 (by decide);conv at a1=>rhs;whnf
     have a9:=J.2 9 (by decide);conv at a9=>rhs;whnf
     have bs:=J.2 11 (by decide);conv at bs=>rhs;whnf
     have bc:=J.2 15 (by decide);conv at bc=>rhs;whnf
     simp only[Q7,yk]at D;clear q J;go_simp
     exact hK _ _ hR (fun _ _ _ h=>h) rfl
    ·intro A x W J hR q _ K hK;have bC:=gv J q 14 122;have bE:=gv J q 8 116;clear q J;obtain⟨ar,o9,ah⟩:=hR;have c9:=qd ah 9;have f9:=frozen_of_row W p 9 _ _ ah;go_simp
     exact hK undef _ ⟨ar.setCell av _,_,heap_setCell_same W p 9 _ _ _ ah⟩ (fun j u hj h=>match j,hj,h with|0,_,h=>h|1,_,h=>h|2,_,h=>h|3,_,h=>h|4,_,h=>h|5,_,h=>h|6,_,h=>h|7,_,h=>h|8,_,h=>h|9,_,h=>h|10,_,h=>h|11,_,h=>h|12,_,h=>h|13,_,h=>h|14,_,h=>h|15,hj,_=>absurd rfl hj|(_+16),_,h=>h) (heap_setCell_same W p 9 _ _ _ ah)
   intro x W hR al;obtain⟨ac, -⟩:=al;change (fun W=>W.heap[p]? =some (.cells #[.int .i64 S,.int .i64 z1,.int .i64 z2,.int .i64 U,.int .u32 V,.int .u64 OF,.int .u32 0,.int .i64 G,.int .i64 I,.slice (some ⟨b,off+32,none⟩) 16 (o - 32),.slice none 0 0] 171 (0,0))) W at ac
   obtain⟨ar, -⟩:=hR;have bk:=qd ac 10;have a7:=frozen_of_row W p 10 _ _ ac;refine qr ?_;simp only[QP,Act.put,Ls];go_wp2_with fail
   refine qr ?_;go_wp2_with fail
   refine qv ?_;have au:Below O.heap.size O (W.setCell ⟨p,10,none⟩ (.slice (some ⟨b,off+48,none⟩) 16 (o - 48))):=ar.setCell av _;have aj:(W.setCell ⟨p,10,none⟩ (.slice (some ⟨b,off+48,none⟩) 16 (o - 48))).heap[p]? =some (.cells #[.int .i64 S,.int .i64 z1,.int .i64 z2,.int .i64 U,.int .u32 V,.int .u64 OF,.int .u32 0,.int .i64 G,.int .i64 I,.slice (some ⟨b,off+32,none⟩) 16 (o - 32),.slice (some ⟨b,off+48,none⟩) 16 (o - 48)] 171 (0,0)):=heap_setCell_same W p 10 _ _ _ ac;generalize W.setCell ⟨p,10,none⟩ (.slice (some ⟨b,off+48,none⟩) 16 (o - 48))=W5 at au aj⊢;clear bk a7 ac ar an aw;have aN:=au.size;have bu:p<W5.heap.size:=(Ai aj).1;go_wp2_with (refine L171 p rfl aj ?_)
   refine(qca true S z1 z2 U V OF G I _ _ 16 16 _ _ _ ⟨by simp only[mB,cond];omega,by simp only[mB,cond];omega,by omega,by omega,⟨by omega,fun h=>by cases h⟩,by omega,by simp only[mB,cond];omega⟩ (by decide) (by decide)).mono ?_;rintro e w6 ⟨rfl,ax⟩;have be:=qf aj ax;have aE:Below O.heap.size O w6:=au.trans (ax.mono aN);have bt:w6.heap[b0]? =some (.cells Kb 171 (0,0)):=(aE.block b0 (by omega)).trans HR.out;have aD:Below b0 w w6:=aa.trans (aE.mono (by omega));have bT:=aE.size;have aP: ∀i,i<zs.length→w6.cell? ⟨b,off+i,none⟩=some (.int .u8 (qp zs i)):=fun i hi=>(aD.cell (p:=⟨b,off+i,none⟩) ab).trans (HC.out i hi)
   have KB:=hid aP;clear aP ax aj au aN bu;go_wp2_with (refine L171 p rfl be ?_)
   have aJ:Qx w6 b off zs:=⟨Nat.lt_of_lt_of_le h1 aD.size,KB.out⟩;have aB:=qcX S z1 z2 U V OF 0 G I ((zs.drop 32).take 16) ((zs.drop 48).take 16) b (off+32) (o - 32) b (off+48) (o - 48) w6 (zw aJ (by omega)) (zw aJ (by omega)) (by rw[QB (by omega)];omega) (by rw[QB (by omega)];omega) (by rw[QB (by omega)];omega) (by rw[QB (by omega)];omega);rw[QB (by omega),QB (by omega)]at aB;refine aB.mono ?_;rintro e w7 ⟨sa,pe,rfl,os,op,aL⟩;clear aB;obtain⟨a5,n5,k5,rfl⟩:=qs os;obtain⟨a8,n8,k8,rfl⟩:=qs op;have aF:=qf bt aL;have bj:Below b0 w w7:=aD.trans (aL.mono (by omega));clear os op;go_wp2_with ((with_reducible show wpList _ _ _ (Oper.mk _ (Op.store _ _ _) _ _ _ _::_) _ _);refine wpList_store_row rfl 171 _ _ rfl b0 #[.int .i64 S,.int .i64 z1,.int .i64 z2,.int .i64 U,.int .u32 V,.int .u64 OF,.int .u32 0,.int .i64 G,.int .i64 I,.slice a5 n5 k5,.slice a8 n8 k8] rfl rfl 171 _ aF (by kernel_rfl) rfl (by simp[Value.oneCell']) ?_)
   exact Bp (qH rfl _ _ b0 _ _ _ _ rfl (setRow_heap _ b0 _ _ _ _ aF) Tryz.underlying171 rfl (by kernel_rfl)) rfl ⟨⟨_,_,_,_,_,_,_,_,rfl,rfl,rfl⟩,by rw[ad];exact below_setRow bj Nl _⟩
end Go.Proofs.YthjoojnlnlmljaaGreat
