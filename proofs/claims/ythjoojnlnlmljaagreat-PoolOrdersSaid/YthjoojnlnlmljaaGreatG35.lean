/- What a node on a leaf's way gives, by the program: path.give. No condition. -/
import Derived.Test.YthjoojnlnlmljaaGreatG33
import Derived.Test.YthjoojnlnlmljaaGreatG05
import Derived.Test.YthjoojnlnlmljaaGreatG04
import Derived.Deep.Slices
import Derived.Test.YthjoojnlnlmljaaGreatG34
import Derived.BigQuiet
import Derived.Deep.QuietTactic
import Derived.Deep.AppendLies
import Derived.Deep.RegionHeld3
import Derived.Laws.AppendOwnNone
import Derived.Maps.AppendAt
import Derived.Deep.DeepCutAuto
set_option linter.all false
set_option maxRecDepth 100000
set_option maxHeartbeats 8000000
namespace Go.Proofs.YthjoojnlnlmljaaGreat
open Go.ChangeShapes Go.WideShapes Go.ChangeAt Go.RowKit Go.Joins Go.Shelf Go.Maps
open Go.Lib (hid)
attribute [local go_sem] Oper.semAt_some
theorem qdt {t:TreeV}(h:t.validE=0)(V:0≤t.l∧t.l≤4294967295){row at_:Nat}(hr:row≤255)(U:at_<18446744073709551616)(o:t.k=2→at_<281474976710656):ParOk t.big (t.vN row at_):=by
 obtain⟨h1,G,J,h4,X,I,Z,O,Y,D, -, -⟩:=qq h;obtain⟨hm, -⟩:=yz h;have q:t.big=false→at_<281474976710656:=fun e=>o (by
  have:t.k≠1:=of_decide_eq_false e
  omega)
 refine⟨⟨?_,?_,?_,?_,⟨?_,fun e=>?_⟩,?_,?_⟩,?_,?_,rfl⟩
 case refine_6=>have:=q e;simp only[TreeV.vN,if_true,if_false,Nat.reduceEqDiff];omega
 all_goals simp only[TreeV.vN,if_true,if_false,Nat.reduceEqDiff]
 all_goals omega
theorem jY {f p total l:Nat}{L:List Nat}(h:RowsIs f p (lvs total l) L): ∀k,k<L.length→nth L k≤lvs total l
 | 0,_=>Nat.le_of_eq h.first
 | k+1,hk=>by
  have o:=jY h k (by omega);have D:1≤lvs total l:=by unfold lvs;omega
  by_cases q:nth L (k+1)=1
  ·omega
  ·obtain⟨e,G⟩:=h.next_or hk q;rw[e];exact Nat.le_trans (YM (by omega)) o
theorem qds {t:TreeV}(J:0≤t.l∧t.l≤4294967295){total row at_:Nat}(V:(total:Int)≤18446744073709551615)(o:t.err total=0)(I:row<(t.rowsOf total).length)(ha:at_<nth (t.rowsOf total) row):ParOk t.big (t.vN row at_)∧row≤255:=by
 obtain⟨U,ac,aa,D⟩:=QF J o;have G:=qM o;have q:=qq D;have Z:=G.most;have ab:(t.pn:Int)≤255:=by have:=q.2.2.2.2.2.2.1;have:=q.2.2.2.2.2.2.2.1;unfold TreeV.pn;omega
 have h3:=jh U V G row I;have O:row≤255:=by omega
 refine⟨qdt D J O (by omega) (fun e=>?_),O⟩;have Y:=jY G row I;have h5:qY total t.ln≤281474976710656:=by
  by_cases X:281474976710656<qY total t.ln
  ·unfold TreeV.err at o;rw[if_neg (by simp[D]),if_pos ⟨e,X⟩]at o;omega
  ·omega
 unfold lvs at Y;omega
theorem qeh (big:Bool)(v:Nat→Nat)(z1 z2:List Int)(G D:Value)(b:Nat)(w:World)(hP:ParOk big v)(h1:SideIs b w z1 G)(V:SideIs b w z2 D)(J: ∀a∈z1,0≤a∧a≤255)(I: ∀a∈z2,0≤a∧a≤255)(q:z1.length≤sB big)(o:z2.length≤sB big):
  Calls Tryz.prog 100 #[.int .i64 (kB big),parN v G D] w fun e w'=>(∃r,e= .returned (.tuple #[r,.int .i64 0])∧w'.ownsRow w.heap.size 5 1 r (mB big) ((QR big v z1 z2).map qt))∧Below w.heap.size w w':=by
 obtain⟨U,O,Z,e1⟩:=Jm h1 J;obtain⟨y2,X,Y,e2⟩:=Jm V I;rw[←qcD q o e1 e2];exact qgR big v U y2 G D w hP O X (Nat.le_trans Z q) (Nat.le_trans Y o)
theorem TreeOk.okD2 {t:TreeV}{kz z1 z2:List Int}{w:World}(h:TreeOk t kz z1 z2 w){row at_:Nat}(I:ParOk t.big (t.vN row at_)):
  Go.Proofs.YthjoojnlnlmljaaGreat.okD t.big false (t.blk z1 z2 row at_)∧Yh (t.blk z1 z2 row at_) (Z1 row kz)=false∧(∀z∈t.blk z1 z2 row at_,0≤z∧z≤255)∧ ∀o:Bool,1≤t.outN o∧t.outN o≤(mB t.big:Nat):=by
 have q:=qq h.v;have O:=yz h.v;have X:=Yy h.s;have V:=Yy h.p;have Z:=Yy h.k;obtain⟨J,D⟩:=qfU (z1:=z1) (z2:=z2) I (by omega) (by omega);refine⟨J,?_,zO h.s.1 h.p.1,fun o=>?_⟩
 ·have G:qr (t.blk z1 z2 row at_) 1=(t.kl:Int):=D;unfold Yh Z1;rw[G];refine decide_eq_false ?_;split
  ·omega
  ·simp
 ·obtain⟨-,d1,d2,Y,U, -⟩:=q
  cases o
  ·show 1≤t.i∧t.i≤_;omega
  ·show 1≤t.d∧t.d≤_;omega
theorem qhx {t:TreeV}{kz z1 z2:List Int}{w:World}(h:TreeOk t kz z1 z2 w){row at_:Nat}(Y:ParOk t.big (t.vN row at_))(o q:Bool)(ds:List Int)(G D I:Value)(W:World)(b:Nat)
  (X:W.ownsRow b 5 1 D (mB t.big) ((t.blk z1 z2 row at_).map qt)) (J:Hold W I (Z1 row kz)) (U:Hold W G ds) (hl:ds.length≤1073741824):
  Calls Tryz.prog 60 #[.agg (Yb t.k D I o (t.outN q) G)] W fun e w'=> ∃u,e= .returned (.tuple #[u,.int .i64 0])∧OwnB W.heap.size w' u (t.node kz z1 z2 row at_ o q ds)∧Below W.heap.size W w':=by
 obtain⟨h1,O,V,h4⟩:=h.okD2 Y;rw[←yQ h.v];refine(qc9 t.big _ _ ds o _ D I G W (Qq X V) J U (by omega) h1 O (h4 q)).mono ?_;rintro e w' ⟨⟨u,rfl,Z⟩,hb⟩
 exact⟨u,rfl,⟨yG t kz z1 z2 row at_ o q ds,Z⟩,hb⟩
theorem qdU (t:TreeV)(kz z1 z2 ds:List Int)(total:Nat)(ht:(total:Int)≤18446744073709551615)(row at_ q2 q3:Nat)(bc:row≠0)(X q5:Bool)(da:Option Addr)(dc:Nat)(w:World)(h:TreeOk t kz z1 z2 w)(hP:ParOk t.big (t.vN row at_))(hr:row≤255)
  (aR:t.spotE total (row:Nat) at_=0) (aX:t.spotR total (row:Nat) at_=⟨row,at_,q2,q3,X,q5⟩) (hd:Hold w (.slice da ds.length dc) ds) (a7:ds.length≤1073741824):
  Calls Tryz.prog 149 #[t.val,.int .u64 total,.int .i64 (row:Nat),.int .u64 (at_:Nat),.slice da ds.length dc] w fun e w'=> ∃u,e= .returned u∧OwnB w.heap.size w' u (t.node kz z1 z2 row at_ X q5 ds)∧Below w.heap.size w w':=by
 obtain⟨o,I⟩:=Ex w.heap.size;have e1:=Yy h.s;have e2:=Yy h.p;have e3:=Yy h.k;have bl:=qq h.v;have bn:=yz h.v;have bd:sB t.big≤16:=by cases t.big<;>decide
 have Y:=fun(W:World)=>qdG t h.l total ht (row:Nat) at_ W
 rw[aX,aR]at Y;unfold SpotV.val at Y;simp only at Y
 have aK:=hid Y;have aU:=hid (fun(W:World) (hb:Below o w W)=>qgx t total (row:Nat) at_ aK W (hid (h.s.below (I▸hb)).holds8) (hid (h.p.below (I▸hb)).holds8) (hid h.s.1) (hid h.p.1) (hid (by omega)) (hid (by omega)));have aG:=fun(W:World) (b:Nat) (s p:Value) (ay:SideIs b W z1 s) (al:SideIs b W z2 p)=>qeh t.big (t.vN row at_) z1 z2 s p b W hP ay al h.s.1 h.p.1 (by omega) (by omega)
 simp only[TreeV.parN h.v h.l,yQ h.v]at aG;have aO:=hid aG;have a6:=hid (fun(W:World) (hb:Below o w W) (bv kv:Value) (B:Nat) (ho:W.ownsRow B 5 1 bv (mB t.big) ((QR t.big (t.vN row at_) z1 z2).map qt)) (hk:Hold W kv (Z1 row kz))=>qhx (h.below (I▸hb)) hP X q5 ds (.slice da ds.length dc) bv kv W B ho hk (hd.below (I▸hb)) a7);have bs:=hid h.k;clear bl bn Y aG aR aX hP hd a7 bd e1 e2 e3 h;unfold TreeV.val J1 at*;go_enter Tryz.func149,Tryz.ntmps149
 go_upto_region 1 with(fail)
 refine qm ?_;intro Z aH;have ad:Z.heap[o]? =some (.cells #[.int .i64 t.k,.int .i64 t.d,.int .i64 t.f,.int .i64 t.p,.int .u32 t.l,.int .i64 t.i,.slice t.ka t.kl t.kc,.slice t.sa t.sl t.sc,.slice t.pa t.pl t.pc] 26 (0,0)):=by rw[aH];exact qe _ _ I.symm
 have ap:Below o w Z:=by rw[aH,←I];exact Br.alloc Nl _
 have bq:o<Z.heap.size:=(Ai ad).1;clear aH;go_wp2_with ((with_reducible show wpList _ _ _ (Oper.mk _ (Op.load 26 _) _ _ _ _::_) _ _);refine wpList_load_row rfl 26 _ rfl o rfl _ _ _ _ ad Tryz.underlying26 rfl (by kernel_rfl) ?_)
 refine(aK.out Z).mono ?_;rintro e w1 ⟨rfl,ak⟩;have ax:=qg ad ak;have aY:=hid (ap.trans (ak.mono (show o≤Z.heap.size by omega)));have ay:=ak.size;obtain⟨D,a8⟩:=Ex w1.heap.size;clear ak ad ap;go_upto_region 2 with(fail)
 refine qm ?_;intro wB aM;have aA:wB.heap[D]? =some (.cells #[.int .i64 (row:Nat),.int .u64 (at_:Nat),.int .u64 (q2:Nat),.int .u64 (q3:Nat),.bool X,.bool q5] 96 (0,0)):=by rw[aM];exact qe _ _ a8.symm
 have aB:Below w1.heap.size w1 wB:=by rw[aM];exact Br.alloc Nl _
 have ar:=qg ax aB;have au:Below o w wB:=aY.out.trans (aB.mono (show o≤w1.heap.size by omega));have bo:D<wB.heap.size:=(Ai aA).1;have bp:o<D:=by omega
 clear aM aB ax aY ay a8;obtain⟨Z,rfl⟩: ∃Z,Z=wB:=⟨_,rfl⟩;go_wp2_with ((with_reducible show wpList _ _ _ (Oper.mk _ (Op.load 26 _) _ _ _ _::_) _ _);refine wpList_load_row rfl 26 _ rfl o rfl _ _ _ _ ar Tryz.underlying26 rfl (by kernel_rfl) ?_)
 refine(aU.out Z au).mono ?_;rintro e w2 ⟨sv,pv,rfl,aE,aJ,af⟩;have bb:=hid (qg ar af);have aT:=hid (qg aA af);have ba:=hid (au.trans (af.mono (by omega)));have al:=af.size;have aZ:=hid aE;have aP:=hid aJ;obtain⟨av,aL,aC,rfl⟩: ∃a n c,sv= .slice a n c:=by
  rcases aE with⟨rfl, -⟩|⟨-,ho⟩
  ·exact⟨_,_,_,rfl⟩
  ·exact qu ho
 obtain⟨am,aF,aq,rfl⟩: ∃a n c,pv= .slice a n c:=by
  rcases aJ with⟨rfl, -⟩|⟨-,ho⟩
  ·exact⟨_,_,_,rfl⟩
  ·exact qu ho
 clear aE aJ af ar aA au aU aK;go_upto_region 3 with((with_reducible show wpList _ _ _ (Oper.mk none (Op.store 171 _ _) _ _ _ _::_) _ _);refine wpList_store_row rfl 171 _ _ rfl w2.heap.size #[.int .i64 t.d,.int .i64 (t.kl:Nat),.int .i64 t.f,.int .i64 t.p,.int .u32 t.l,.int .u64 (at_:Nat),.int .u32 0,.int .i64 (row:Nat),.int .i64 t.i,.slice av aL aC,.slice am aF aq] rfl rfl 171 _ (Wn _ _) (by kernel_rfl) rfl (by simp[Value.oneCell']) ?_)
 refine qm ?_;intro V hV;obtain⟨b3,ab⟩:=Ex w2.heap.size;have an:V.heap[b3]? =some (.cells #[.int .i64 t.d,.int .i64 (t.kl:Nat),.int .i64 t.f,.int .i64 t.p,.int .u32 t.l,.int .u64 (at_:Nat),.int .u32 0,.int .i64 (row:Nat),.int .i64 t.i,.slice av aL aC,.slice am aF aq] 171 (0,0)):=by rw[hV,←ab];exact setRow_heap _ _ _ _ _ _ (Wn _ _)
 have aa:Below b3 w2 V:=by rw[hV,←ab];exact below_setRow (Br.alloc Nl _) Nl _
 have a3:=hid (show Below o w V from ba.out.trans (aa.mono (by omega)));have aj:=hid ((aa.block o (by omega)).trans bb.out);have aD:=hid ((aa.block (D) (by omega)).trans aT.out);have a4:=hid (aO.out V Z.heap.size (.slice av aL aC) (.slice am aF aq) (Zd aZ.out (ab▸aa)) (Zd aP.out (ab▸aa)));have bm:b3<V.heap.size:=(Ai an).1;have be:D<V.heap.size:=by omega
 have bf:o<V.heap.size:=by omega
 rw[ab];have c0:V.cell? ⟨o,0,none⟩=some (.int .i64 t.k):=qd aj.out 0;clear hV aa ba bb aT ab aO aZ aP;go_wp2_with ((with_reducible show wpList _ _ _ (Oper.mk _ (Op.load 171 _) _ _ _ _::_) _ _);refine wpList_load_row rfl 171 _ rfl b3 rfl _ _ _ _ an Tryz.underlying171 rfl (by kernel_rfl) ?_)
 refine a4.out.mono ?_;rintro e w4 ⟨⟨bv,rfl,ao⟩,G⟩;obtain⟨a5,n5,k5,rfl⟩:=qu ao;have ac:=qg aj.out G;have ah:=qg aD.out G;have az:=hid ac;have aI:=hid ah;have bh:=G.size;have aS:=hid ao;have aV:=hid (show Below o w w4 from a3.out.trans (G.mono (by omega)));have c0:w4.cell? ⟨o,0,none⟩=some (.int .i64 t.k):=qd ac 0;have c5:w4.cell? ⟨o,5,none⟩=some (.int .i64 t.i):=qd ac 5;have d4:w4.cell? ⟨D,4,none⟩=some (.bool X):=qd ah 4;have bg:D<w4.heap.size∧o<w4.heap.size:=by omega
 clear G ao ac ah an a4 a3 aj aD bm;go_upto_region 5 with((with_reducible show wpList _ _ _ (Oper.mk none (Op.store 73 _ _) _ _ _ _::_) _ _);refine wpList_store_row rfl 73 _ _ rfl w4.heap.size #[.int .i64 t.k,.slice a5 n5 k5,.slice none 0 0,.bool X,.int .i64 t.i,.slice da ds.length dc] rfl rfl 73 _ (Wn _ _) (by kernel_rfl) rfl (by simp[Value.oneCell']) ?_)
 refine qm ?_;intro U hU;obtain⟨q,G⟩:=Ex w4.heap.size;have aQ:U.heap[q]? =some (.cells #[.int .i64 t.k,.slice a5 n5 k5,.slice none 0 0,.bool X,.int .i64 t.i,.slice da ds.length dc] 73 (0,0)):=by rw[hU,←G];exact setRow_heap _ _ _ _ _ _ (Wn _ _)
 have ae:Below q w4 U:=by rw[hU,←G];exact below_setRow (Br.alloc Nl _) Nl _
 rw[G];have J:=hid (show U.heap[q]? =some (.cells #[.int .i64 t.k,.slice a5 n5 k5,.slice none 0 0,.bool X,.int .i64 t.i,.slice da ds.length dc] 73 (0,0))∧U.heap[o]? =some (.cells #[.int .i64 t.k,.int .i64 t.d,.int .i64 t.f,.int .i64 t.p,.int .u32 t.l,.int .i64 t.i,.slice t.ka t.kl t.kc,.slice t.sa t.sl t.sc,.slice t.pa t.pl t.pc] 26 (0,0))∧U.heap[D]? =some (.cells #[.int .i64 (row:Nat),.int .u64 (at_:Nat),.int .u64 (q2:Nat),.int .u64 (q3:Nat),.bool X,.bool q5] 96 (0,0))∧Below o w U∧U.ownsRow o 5 1 (.slice a5 n5 k5) (mB t.big) ((QR t.big (t.vN row at_) z1 z2).map qt) from⟨aQ,(ae.block o (by omega)).trans az.out,(ae.block (D) (by omega)).trans aI.out,aV.out.trans (ae.mono (by omega)),ownsRow_le (qk aS.out (fun g _ g2=>ae.block g (by omega))) (by omega)⟩);have br:D<q:=by omega
 clear hU G aQ ae az aI aV aS c0 c5 d4 bg bh be bf al bo;have d5:U.cell? ⟨D,5,none⟩=some (.bool q5):=qd J.out.2.2.1 5;have O:q<U.heap.size∧o<U.heap.size∧D<U.heap.size:=by have:=(Ai J.out.1).1;omega
 obtain⟨O,ai,ag⟩:=O;have c1:U.cell? ⟨o,1,none⟩=some (.int .i64 t.d):=qd J.out.2.1 1;have c4:U.cell? ⟨q,4,none⟩=some (.int .i64 t.i):=qd J.out.1 4;have f4:=frozen_of_row U q 4 _ _ J.out.1;go_upto_if 53 with(fail)
 go_cut [17] (fun u W=>u= .pointer (some ⟨q,0,none⟩)∧W.heap[q]? =some (.cells #[.int .i64 t.k,.slice a5 n5 k5,.slice none 0 0,.bool X,.int .i64 (t.outN q5),.slice da ds.length dc] 73 (0,0))∧W.heap[o]? =some (.cells #[.int .i64 t.k,.int .i64 t.d,.int .i64 t.f,.int .i64 t.p,.int .u32 t.l,.int .i64 t.i,.slice t.ka t.kl t.kc,.slice t.sa t.sl t.sc,.slice t.pa t.pl t.pc] 26 (0,0))∧W.heap[D]? =some (.cells #[.int .i64 (row:Nat),.int .u64 (at_:Nat),.int .u64 (q2:Nat),.int .u64 (q3:Nat),.bool X,.bool q5] 96 (0,0))∧Below o w W∧W.ownsRow o 5 1 (.slice a5 n5 k5) (mB t.big) ((QR t.big (t.vN row at_) z1 z2).map qt))
 case first=>
  cases q5
  ·go_wp2_with fail
   go_meet
   case rel=>exact⟨rfl,J.out⟩
  ·go_wp2_with fail
   go_meet
   case rel=>
    obtain⟨r1,r2,r3,r4,r5⟩:=J.out;exact⟨rfl,heap_setCell_same U q 4 _ _ (.int .i64 t.d) r1,(heap_setCell_other U ⟨q,4,none⟩ o (.int .i64 t.d) (show o≠q by omega)).trans r2,(heap_setCell_other U ⟨q,4,none⟩ (D) (.int .i64 t.d) (show D≠q by omega)).trans r3,r4.setCell (show o≤q by omega) _,Yg r5 r1 4 (.int .i64 t.d) (by decide)⟩
 case rest=>
  obtain⟨rfl,a9⟩:=hcut;have aw:=hid a9;clear a9 J d5 O ai ag c1 c4 f4;clear U;have O:q<wc.heap.size∧o<wc.heap.size∧D<wc.heap.size:=by have:=(Ai aw.out.1).1;omega
  obtain⟨O,ai,ag⟩:=O;obtain⟨r1,r2,r3,r4,r5⟩:=aw.out;have bj:=hid r1;have aN:=hid (a6.out wc r4 (.slice a5 n5 k5) (.slice none 0 0) o r5 (by unfold Z1;rw[if_neg bc];exact Hold.nil _));have bk:=hid r4;have bt:q<wc.heap.size:=(Ai r1).1;clear r1 r2 r3 r4 r5 aw a6 O ai ag;go_wp2_with ((with_reducible show wpList _ _ _ (Oper.mk _ (Op.load 73 _) _ _ _ _::_) _ _);refine wpList_load_row rfl 73 _ rfl q rfl _ _ _ _ bj.out Tryz.underlying73 rfl (by kernel_rfl) ?_)
  refine aN.out.mono ?_;rintro e w9 ⟨u,rfl,hu,aW⟩;have HU:=hid (hu.le (show o≤wc.heap.size by omega));have bi:=hid (bk.out.trans (aW.mono (show o≤wc.heap.size by omega)));clear hu aW;go_wp2_with fail
  go_ret
  exact⟨_,rfl,by rw[I];exact HU.out,by rw[I];exact bi.out⟩
end Go.Proofs.YthjoojnlnlmljaaGreat
