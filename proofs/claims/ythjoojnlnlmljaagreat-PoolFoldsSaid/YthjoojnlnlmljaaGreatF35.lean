/- What a node on a leaf's way gives, by the program: path.give. No condition. -/
import Derived.Test.YthjoojnlnlmljaaGreatF33
import Derived.Test.YthjoojnlnlmljaaGreatF05
import Derived.Test.YthjoojnlnlmljaaGreatF04
import Derived.Deep.Slices
import Derived.Test.YthjoojnlnlmljaaGreatF34
import Derived.BigQuiet
import Derived.Deep.QuietTactic
import Derived.Deep.AppendLies
import Derived.Deep.RegionHeld3
import Derived.Laws.AppendOwnNone
import Derived.Maps.AppendAt
import Derived.Deep.DeepCutAuto
set_option linter.all false
set_option maxRecDepth 100000
set_option maxHeartbeats 8000000
namespace Go.Proofs.YthjoojnlnlmljaaGreat
open Go.ChangeShapes Go.WideShapes Go.ChangeAt Go.RowKit Go.Joins Go.Shelf Go.Maps
open Go.Lib (hid)
attribute [local go_sem] Oper.semAt_some
theorem qcY {t:TreeV}(h:t.validE=0)(S:0≤t.l∧t.l≤4294967295){row at_:Nat}(Z:row≤255)(I:at_<18446744073709551616)(q:t.k=2→at_<281474976710656):ParOk t.big (t.vN row at_):=by
 obtain⟨J,G,O,Y,V,h6,U,X,h9,D, -, -⟩:=qq h;obtain⟨hm, -⟩:=yH h;have o:t.big=false→at_<281474976710656:=fun e=>q (by
  have:t.k≠1:=of_decide_eq_false e
  omega)
 refine⟨⟨?_,?_,?_,?_,⟨?_,fun e=>?_⟩,?_,?_⟩,?_,?_,rfl⟩
 case refine_6=>have:=o e;simp only[TreeV.vN,if_true,if_false,Nat.reduceEqDiff];omega
 all_goals simp only[TreeV.vN,if_true,if_false,Nat.reduceEqDiff]
 all_goals omega
theorem jE {f p total l:Nat}{L:List Nat}(h:RowsIs f p (lvs total l) L): ∀k,k<L.length→nth L k≤lvs total l
 | 0,_=>Nat.le_of_eq h.first
 | k+1,hk=>by
  have o:=jE h k (by omega);have G:1≤lvs total l:=by unfold lvs;omega
  by_cases q:nth L (k+1)=1
  ·omega
  ·obtain⟨e,D⟩:=h.next_or hk q;rw[e];exact Nat.le_trans (YU (by omega)) o
theorem qcX {t:TreeV}(J:0≤t.l∧t.l≤4294967295){total row at_:Nat}(V:(total:Int)≤18446744073709551615)(o:t.err total=0)(I:row<(t.rowsOf total).length)(ha:at_<nth (t.rowsOf total) row):ParOk t.big (t.vN row at_)∧row≤255:=by
 obtain⟨S,aa,ab,G⟩:=yj J o;have D:=qM o;have q:=qq G;have X:=D.most;have Z:(t.pn:Int)≤255:=by have:=q.2.2.2.2.2.2.1;have:=q.2.2.2.2.2.2.2.1;unfold TreeV.pn;omega
 have h3:=ZY S V D row I;have O:row≤255:=by omega
 refine⟨qcY G J O (by omega) (fun e=>?_),O⟩;have U:=jE D row I;have h5:qU total t.ln≤281474976710656:=by
  by_cases Y:281474976710656<qU total t.ln
  ·unfold TreeV.err at o;rw[if_neg (by simp[G]),if_pos ⟨e,Y⟩]at o;omega
  ·omega
 unfold lvs at U;omega
theorem qdI (big:Bool)(v:Nat→Nat)(z1 z2:List Int)(D G:Value)(b:Nat)(w:World)(X:ParOk big v)(V:SideIs b w z1 D)(S:SideIs b w z2 G)(I: ∀a∈z1,0≤a∧a≤255)(J: ∀a∈z2,0≤a∧a≤255)(o:z1.length≤sB big)(q:z2.length≤sB big):
  Calls Tryz.prog 100 #[.int .i64 (kB big),parN v D G] w fun e w'=>(∃r,e= .returned (.tuple #[r,.int .i64 0])∧w'.ownsRow w.heap.size 5 1 r (mB big) ((QI big v z1 z2).map qp))∧Below w.heap.size w w':=by
 obtain⟨O,k1,U,e1⟩:=jT V I;obtain⟨Y,k2,m2,Z⟩:=jT S J;rw[←qb8 o q e1 Z];exact qgh big v O Y D G w X k1 k2 (Nat.le_trans U o) (Nat.le_trans m2 q)
theorem TreeOk.okD2 {t:TreeV}{kz z1 z2:List Int}{w:World}(h:TreeOk t kz z1 z2 w){row at_:Nat}(J:ParOk t.big (t.vN row at_)):
  Go.Proofs.YthjoojnlnlmljaaGreat.okD t.big false (t.blk z1 z2 row at_)∧yX (t.blk z1 z2 row at_) (Jb row kz)=false∧(∀z∈t.blk z1 z2 row at_,0≤z∧z≤255)∧ ∀o:Bool,1≤t.outN o∧t.outN o≤(mB t.big:Nat):=by
 have q:=qq h.v;have O:=yH h.v;have Y:=Yp h.s;have U:=Yp h.p;have X:=Yp h.k;obtain⟨G,D⟩:=qfm (z1:=z1) (z2:=z2) J (by omega) (by omega);refine⟨G,?_,zz h.s.1 h.p.1,fun o=>?_⟩
 ·have I:qn (t.blk z1 z2 row at_) 1=(t.kl:Int):=D;unfold yX Jb;rw[I];refine decide_eq_false ?_;split
  ·omega
  ·simp
 ·obtain⟨-,d1,d2,V,S, -⟩:=q
  cases o
  ·show 1≤t.i∧t.i≤_;omega
  ·show 1≤t.d∧t.d≤_;omega
theorem qgV {t:TreeV}{kz z1 z2:List Int}{w:World}(h:TreeOk t kz z1 z2 w){row at_:Nat}(hP:ParOk t.big (t.vN row at_))(o q:Bool)(ds:List Int)(G I D:Value)(W:World)(b:Nat)
  (S:W.ownsRow b 5 1 I (mB t.big) ((t.blk z1 z2 row at_).map qp)) (V:Hold W D (Jb row kz)) (hd:Hold W G ds) (hl:ds.length≤1073741824):
  Calls Tryz.prog 60 #[.agg (ZQ t.k I D o (t.outN q) G)] W fun e w'=> ∃u,e= .returned (.tuple #[u,.int .i64 0])∧OwnB W.heap.size w' u (t.node kz z1 z2 row at_ o q ds)∧Below W.heap.size W w':=by
 obtain⟨X,J,Y,Z⟩:=h.okD2 hP;rw[←YW h.v];refine(qcF t.big _ _ ds o _ I D G W (Qn S Y) V hd (by omega) X J (Z q)).mono ?_;rintro e w' ⟨⟨u,rfl,U⟩,O⟩
 exact⟨u,rfl,⟨zC t kz z1 z2 row at_ o q ds,U⟩,O⟩
theorem qdn (t:TreeV)(kz z1 z2 ds:List Int)(total:Nat)(ht:(total:Int)≤18446744073709551615)(row at_ q2 q3:Nat)(bd:row≠0)(O q5:Bool)(da:Option Addr)(dc:Nat)(w:World)(h:TreeOk t kz z1 z2 w)(hP:ParOk t.big (t.vN row at_))(hr:row≤255)
  (aO:t.spotE total (row:Nat) at_=0) (a8:t.spotR total (row:Nat) at_=⟨row,at_,q2,q3,O,q5⟩) (hd:Hold w (.slice da ds.length dc) ds) (a3:ds.length≤1073741824):
  Calls Tryz.prog 149 #[t.val,.int .u64 total,.int .i64 (row:Nat),.int .u64 (at_:Nat),.slice da ds.length dc] w fun e w'=> ∃u,e= .returned u∧OwnB w.heap.size w' u (t.node kz z1 z2 row at_ O q5 ds)∧Below w.heap.size w w':=by
 obtain⟨o,J⟩:=Ex w.heap.size;have e1:=Yp h.s;have e2:=Yp h.p;have e3:=Yp h.k;have bn:=qq h.v;have bi:=yH h.v;have bf:sB t.big≤16:=by cases t.big<;>decide
 have S:=fun(W:World)=>qdb t h.l total ht (row:Nat) at_ W
 rw[a8,aO]at S;unfold SpotV.val at S;simp only at S
 have ay:=hid S;have aN:=hid (fun(W:World) (hb:Below o w W)=>qfZ t total (row:Nat) at_ ay W (hid (h.s.below (J▸hb)).holds8) (hid (h.p.below (J▸hb)).holds8) (hid h.s.1) (hid h.p.1) (hid (by omega)) (hid (by omega)));have aK:=fun(W:World) (b:Nat) (s p:Value) (aL:SideIs b W z1 s) (an:SideIs b W z2 p)=>qdI t.big (t.vN row at_) z1 z2 s p b W hP aL an h.s.1 h.p.1 (by omega) (by omega)
 simp only[TreeV.parN h.v h.l,YW h.v]at aK;have aT:=hid aK;have aU:=hid (fun(W:World) (hb:Below o w W) (bv kv:Value) (B:Nat) (ho:W.ownsRow B 5 1 bv (mB t.big) ((QI t.big (t.vN row at_) z1 z2).map qp)) (hk:Hold W kv (Jb row kz))=>qgV (h.below (J▸hb)) hP O q5 ds (.slice da ds.length dc) bv kv W B ho hk (hd.below (J▸hb)) a3);have bs:=hid h.k;clear bn bi S aK aO a8 hP hd a3 bf e1 e2 e3 h;unfold TreeV.val JD at*;go_enter Tryz.func149,Tryz.ntmps149
 go_upto_region 1 with(fail)
 refine qj ?_;intro Y av;have ab:Y.heap[o]? =some (.cells #[.int .i64 t.k,.int .i64 t.d,.int .i64 t.f,.int .i64 t.p,.int .u32 t.l,.int .i64 t.i,.slice t.ka t.kl t.kc,.slice t.sa t.sl t.sc,.slice t.pa t.pl t.pc] 26 (0,0)):=by rw[av];exact qc _ _ J.symm
 have aB:Below o w Y:=by rw[av,←J];exact Br.alloc Nl _
 have bo:o<Y.heap.size:=(Ai ab).1;clear av;go_wp2_with ((with_reducible show wpList _ _ _ (Oper.mk _ (Op.load 26 _) _ _ _ _::_) _ _);refine wpList_load_row rfl 26 _ rfl o rfl _ _ _ _ ab Tryz.underlying26 rfl (by kernel_rfl) ?_)
 refine(ay.out Y).mono ?_;rintro e w1 ⟨rfl,aj⟩;have aC:=qe ab aj;have a9:=hid (aB.trans (aj.mono (show o≤Y.heap.size by omega)));have aL:=aj.size;obtain⟨D,aY⟩:=Ex w1.heap.size;clear aj ab aB;go_upto_region 2 with(fail)
 refine qj ?_;intro wB aE;have aA:wB.heap[D]? =some (.cells #[.int .i64 (row:Nat),.int .u64 (at_:Nat),.int .u64 (q2:Nat),.int .u64 (q3:Nat),.bool O,.bool q5] 96 (0,0)):=by rw[aE];exact qc _ _ aY.symm
 have aG:Below w1.heap.size w1 wB:=by rw[aE];exact Br.alloc Nl _
 have aq:=qe aC aG;have ap:Below o w wB:=a9.out.trans (aG.mono (show o≤w1.heap.size by omega));have bg:D<wB.heap.size:=(Ai aA).1;have bp:o<D:=by omega
 clear aE aG aC a9 aL aY;obtain⟨Y,rfl⟩: ∃Y,Y=wB:=⟨_,rfl⟩;go_wp2_with ((with_reducible show wpList _ _ _ (Oper.mk _ (Op.load 26 _) _ _ _ _::_) _ _);refine wpList_load_row rfl 26 _ rfl o rfl _ _ _ _ aq Tryz.underlying26 rfl (by kernel_rfl) ?_)
 refine(aN.out Y ap).mono ?_;rintro e w2 ⟨sv,pv,rfl,au,aF,ae⟩;have ba:=hid (qe aq ae);have aX:=hid (qe aA ae);have a4:=hid (ap.trans (ae.mono (by omega)));have an:=ae.size;have aV:=hid au;have aR:=hid aF;obtain⟨aH,ak,aD,rfl⟩: ∃a n c,sv= .slice a n c:=by
  rcases au with⟨rfl, -⟩|⟨-,ho⟩
  ·exact⟨_,_,_,rfl⟩
  ·exact qu ho
 obtain⟨ar,aJ,am,rfl⟩: ∃a n c,pv= .slice a n c:=by
  rcases aF with⟨rfl, -⟩|⟨-,ho⟩
  ·exact⟨_,_,_,rfl⟩
  ·exact qu ho
 clear au aF ae aq aA ap aN ay;go_upto_region 3 with((with_reducible show wpList _ _ _ (Oper.mk none (Op.store 171 _ _) _ _ _ _::_) _ _);refine wpList_store_row rfl 171 _ _ rfl w2.heap.size #[.int .i64 t.d,.int .i64 (t.kl:Nat),.int .i64 t.f,.int .i64 t.p,.int .u32 t.l,.int .u64 (at_:Nat),.int .u32 0,.int .i64 (row:Nat),.int .i64 t.i,.slice aH ak aD,.slice ar aJ am] rfl rfl 171 _ (Wn _ _) (by kernel_rfl) rfl (by simp[Value.oneCell']) ?_)
 refine qj ?_;intro V hV;obtain⟨b3,Z⟩:=Ex w2.heap.size;have aw:V.heap[b3]? =some (.cells #[.int .i64 t.d,.int .i64 (t.kl:Nat),.int .i64 t.f,.int .i64 t.p,.int .u32 t.l,.int .u64 (at_:Nat),.int .u32 0,.int .i64 (row:Nat),.int .i64 t.i,.slice aH ak aD,.slice ar aJ am] 171 (0,0)):=by rw[hV,←Z];exact setRow_heap _ _ _ _ _ _ (Wn _ _)
 have aa:Below b3 w2 V:=by rw[hV,←Z];exact below_setRow (Br.alloc Nl _) Nl _
 have aS:=hid (show Below o w V from a4.out.trans (aa.mono (by omega)));have af:=hid ((aa.block o (by omega)).trans ba.out);have ao:=hid ((aa.block (D) (by omega)).trans aX.out);have aW:=hid (aT.out V Y.heap.size (.slice aH ak aD) (.slice ar aJ am) (zT aV.out (Z▸aa)) (zT aR.out (Z▸aa)));have bl:b3<V.heap.size:=(Ai aw).1;have be:D<V.heap.size:=by omega
 have bb:o<V.heap.size:=by omega
 rw[Z];have c0:V.cell? ⟨o,0,none⟩=some (.int .i64 t.k):=qa af.out 0;clear hV aa a4 ba aX Z aT aV aR;go_wp2_with ((with_reducible show wpList _ _ _ (Oper.mk _ (Op.load 171 _) _ _ _ _::_) _ _);refine wpList_load_row rfl 171 _ rfl b3 rfl _ _ _ _ aw Tryz.underlying171 rfl (by kernel_rfl) ?_)
 refine aW.out.mono ?_;rintro e w4 ⟨⟨bv,rfl,al⟩,G⟩;obtain⟨a5,n5,k5,rfl⟩:=qu al;have ac:=qe af.out G;have ai:=qe ao.out G;have ax:=hid ac;have az:=hid ai;have bm:=G.size;have aQ:=hid al;have a7:=hid (show Below o w w4 from aS.out.trans (G.mono (by omega)));have c0:w4.cell? ⟨o,0,none⟩=some (.int .i64 t.k):=qa ac 0;have c5:w4.cell? ⟨o,5,none⟩=some (.int .i64 t.i):=qa ac 5;have d4:w4.cell? ⟨D,4,none⟩=some (.bool O):=qa ai 4;have bc:D<w4.heap.size∧o<w4.heap.size:=by omega
 clear G al ac ai aw aW aS af ao bl;go_upto_region 5 with((with_reducible show wpList _ _ _ (Oper.mk none (Op.store 73 _ _) _ _ _ _::_) _ _);refine wpList_store_row rfl 73 _ _ rfl w4.heap.size #[.int .i64 t.k,.slice a5 n5 k5,.slice none 0 0,.bool O,.int .i64 t.i,.slice da ds.length dc] rfl rfl 73 _ (Wn _ _) (by kernel_rfl) rfl (by simp[Value.oneCell']) ?_)
 refine qj ?_;intro U hU;obtain⟨q,G⟩:=Ex w4.heap.size;have aZ:U.heap[q]? =some (.cells #[.int .i64 t.k,.slice a5 n5 k5,.slice none 0 0,.bool O,.int .i64 t.i,.slice da ds.length dc] 73 (0,0)):=by rw[hU,←G];exact setRow_heap _ _ _ _ _ _ (Wn _ _)
 have ad:Below q w4 U:=by rw[hU,←G];exact below_setRow (Br.alloc Nl _) Nl _
 rw[G];have I:=hid (show U.heap[q]? =some (.cells #[.int .i64 t.k,.slice a5 n5 k5,.slice none 0 0,.bool O,.int .i64 t.i,.slice da ds.length dc] 73 (0,0))∧U.heap[o]? =some (.cells #[.int .i64 t.k,.int .i64 t.d,.int .i64 t.f,.int .i64 t.p,.int .u32 t.l,.int .i64 t.i,.slice t.ka t.kl t.kc,.slice t.sa t.sl t.sc,.slice t.pa t.pl t.pc] 26 (0,0))∧U.heap[D]? =some (.cells #[.int .i64 (row:Nat),.int .u64 (at_:Nat),.int .u64 (q2:Nat),.int .u64 (q3:Nat),.bool O,.bool q5] 96 (0,0))∧Below o w U∧U.ownsRow o 5 1 (.slice a5 n5 k5) (mB t.big) ((QI t.big (t.vN row at_) z1 z2).map qp) from⟨aZ,(ad.block o (by omega)).trans ax.out,(ad.block (D) (by omega)).trans az.out,a7.out.trans (ad.mono (by omega)),ownsRow_le (qi aQ.out (fun g _ g2=>ad.block g (by omega))) (by omega)⟩);have br:D<q:=by omega
 clear hU G aZ ad ax az a7 aQ c0 c5 d4 bc bm be bb an bg;have d5:U.cell? ⟨D,5,none⟩=some (.bool q5):=qa I.out.2.2.1 5;have X:q<U.heap.size∧o<U.heap.size∧D<U.heap.size:=by have:=(Ai I.out.1).1;omega
 obtain⟨X,ah,ag⟩:=X;have c1:U.cell? ⟨o,1,none⟩=some (.int .i64 t.d):=qa I.out.2.1 1;have c4:U.cell? ⟨q,4,none⟩=some (.int .i64 t.i):=qa I.out.1 4;have f4:=frozen_of_row U q 4 _ _ I.out.1;go_upto_if 53 with(fail)
 go_cut [17] (fun u W=>u= .pointer (some ⟨q,0,none⟩)∧W.heap[q]? =some (.cells #[.int .i64 t.k,.slice a5 n5 k5,.slice none 0 0,.bool O,.int .i64 (t.outN q5),.slice da ds.length dc] 73 (0,0))∧W.heap[o]? =some (.cells #[.int .i64 t.k,.int .i64 t.d,.int .i64 t.f,.int .i64 t.p,.int .u32 t.l,.int .i64 t.i,.slice t.ka t.kl t.kc,.slice t.sa t.sl t.sc,.slice t.pa t.pl t.pc] 26 (0,0))∧W.heap[D]? =some (.cells #[.int .i64 (row:Nat),.int .u64 (at_:Nat),.int .u64 (q2:Nat),.int .u64 (q3:Nat),.bool O,.bool q5] 96 (0,0))∧Below o w W∧W.ownsRow o 5 1 (.slice a5 n5 k5) (mB t.big) ((QI t.big (t.vN row at_) z1 z2).map qp))
 case first=>
  cases q5
  ·go_wp2_with fail
   go_meet
   case rel=>exact⟨rfl,I.out⟩
  ·go_wp2_with fail
   go_meet
   case rel=>
    obtain⟨r1,r2,r3,r4,r5⟩:=I.out;exact⟨rfl,heap_setCell_same U q 4 _ _ (.int .i64 t.d) r1,(heap_setCell_other U ⟨q,4,none⟩ o (.int .i64 t.d) (show o≠q by omega)).trans r2,(heap_setCell_other U ⟨q,4,none⟩ (D) (.int .i64 t.d) (show D≠q by omega)).trans r3,r4.setCell (show o≤q by omega) _,yW r5 r1 4 (.int .i64 t.d) (by decide)⟩
 case rest=>
  obtain⟨rfl,aP⟩:=hcut;have aI:=hid aP;clear aP I d5 X ah ag c1 c4 f4;clear U;have X:q<wc.heap.size∧o<wc.heap.size∧D<wc.heap.size:=by have:=(Ai aI.out.1).1;omega
  obtain⟨X,ah,ag⟩:=X;obtain⟨r1,r2,r3,r4,r5⟩:=aI.out;have bk:=hid r1;have aM:=hid (aU.out wc r4 (.slice a5 n5 k5) (.slice none 0 0) o r5 (by unfold Jb;rw[if_neg bd];exact Hold.nil _));have bj:=hid r4;have bq:q<wc.heap.size:=(Ai r1).1;clear r1 r2 r3 r4 r5 aI aU X ah ag;go_wp2_with ((with_reducible show wpList _ _ _ (Oper.mk _ (Op.load 73 _) _ _ _ _::_) _ _);refine wpList_load_row rfl 73 _ rfl q rfl _ _ _ _ bk.out Tryz.underlying73 rfl (by kernel_rfl) ?_)
  refine aM.out.mono ?_;rintro e w9 ⟨u,rfl,hu,a6⟩;have HU:=hid (hu.le (show o≤wc.heap.size by omega));have bh:=hid (bj.out.trans (a6.mono (show o≤wc.heap.size by omega)));clear hu a6;go_wp2_with fail
  go_ret
  exact⟨_,rfl,by rw[J];exact HU.out,by rw[J];exact bh.out⟩
end Go.Proofs.YthjoojnlnlmljaaGreat
