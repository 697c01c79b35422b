/- Lemmas. No condition. -/
import Derived.Test.YtahenngmaoellaaGreatO11
import Derived.Deep.DeepCutAuto
import Derived.Test.YtahenngmaoellaaGreatO41
set_option linter.all false
set_option maxRecDepth 100000
set_option maxHeartbeats 0
namespace Go.Proofs.YtahenngmaoellaaGreat
open Go.ChangeShapes Go.WideShapes Go.ChangeAt Go.RowKit Go.Joins Go.Shelf Go.Maps
open Go.Lib (hid)
variable{row at_ total leaf:Nat}{kz z1 z2:List Int}
attribute [local go_sem] Oper.semAt_some
theorem qen {t:TreeV}(h:t.validE=0)(O:0<=t.l/\t.l<=4294967295)(G:row<=255)(ha:at_<18446744073709551616)(o:t.k=2->at_<281474976710656):ParOk t.big (t.vN row at_):=by
 obtain⟨Z,U,I,h4,X,V,Y,S,J,r, -, -⟩:=qn h;obtain⟨D, -⟩:=QW h;have q:t.big=false->at_<281474976710656:=fun e=>o (by
  have:t.k≠1:=of_decide_eq_false e
  omega)
 refine⟨⟨?_,?_,?_,?_,⟨?_,fun e=>?_⟩,?_,?_⟩,?_,?_,rfl⟩
 case refine_6=>have:=q e;simp only[TreeV.vN,if_true,if_false,Nat.reduceEqDiff];omega
 all_goals simp only[TreeV.vN,if_true,if_false,Nat.reduceEqDiff]
 all_goals omega
theorem qbV {f p total l:Nat}{L:List Nat}(h:RowsIs f p (lvs total l) L): ∀k,k<L.length->nth L k<=lvs total l
 | 0,_=>Nat.le_of_eq h.first
 | k+1,hk=>by
  have q:=qbV h k (by omega);have r:1<=lvs total l:=by unfold lvs;omega
  by_cases o:nth L (k+1)=1
  ·omega
  ·obtain⟨e,D⟩:=h.next_or hk o;rw[e];exact Nat.le_trans (Yy (by omega)) q
theorem qem {t:TreeV}(I:0<=t.l/\t.l<=4294967295)(V:(total:Int)<=18446744073709551615)(o:t.err total=0)(O:row<(t.rowsOf total).length)(ha:at_<nth (t.rowsOf total) row):ParOk t.big (t.vN row at_)/\row<=255:=by
 obtain⟨J,Y,Z,D⟩:=Qw I o;have r:=qG o;have q:=qn D;have S:=r.most;have aa:(t.pn:Int)<=255:=by have:=q.2.2.2.2.2.2.1;have:=q.2.2.2.2.2.2.2.1;unfold TreeV.pn;omega
 have h3:=zk J V r row O;have G:row<=255:=by omega
 refine⟨qen D I G (by omega) (fun e=>?_),G⟩;have X:=qbV r row O;have h5:qP total t.ln<=281474976710656:=by
  by_cases U:281474976710656<qP total t.ln
  ·unfold TreeV.err at o;rw[if_neg (by simp[D]),if_pos ⟨e,U⟩]at o;omega
  ·omega
 unfold lvs at X;omega
theorem qft (big:Bool)(v:Nat->Nat)(z1 z2:List Int)(G D:Value)(b:Nat)(w:World)(O:ParOk big v)(h1:SideIs b w z1 G)(U:SideIs b w z2 D)(I: ∀a∈z1,0<=a/\a<=255)(J: ∀a∈z2,0<=a/\a<=255)(o:z1.length<=sB big)(q:z2.length<=sB big):
  Calls Tryz.prog 109 #[.int .i64 (kB big),parN v G D] w fun e w'=>(∃r,e= .returned (.tuple #[r,.int .i64 0])/\w'.ownsRow w.heap.size 5 1 r (mB big) ((QV big v z1 z2).map qp))/\Below w.heap.size w w':=by
 obtain⟨Z,k1,m1,S⟩:=ZJ h1 I;obtain⟨V,X,Y,e2⟩:=ZJ U J;rw[<-qaR o q S e2];exact qdt big v Z V G D w O k1 X (Nat.le_trans m1 o) (Nat.le_trans Y q)
theorem TreeOk.okD2 {t:TreeV}{w:World}(h:TreeOk t kz z1 z2 w)(q:ParOk t.big (t.vN row at_)):
  Go.Proofs.YtahenngmaoellaaGreat.okD t.big false (t.blk z1 z2 row at_)/\YN (t.blk z1 z2 row at_) (yV row kz)=false/\(∀z∈t.blk z1 z2 row at_,0<=z/\z<=255)/\ ∀rt:Bool,1<=t.outN rt/\t.outN rt<=(mB t.big:Nat):=by
 have o:=qn h.v;have I:=QW h.v;have O:=yk h.s;have U:=yk h.p;have J:=yk h.k;obtain⟨G,D⟩:=qg9 (z1:=z1) (z2:=z2) q (by omega) (by omega);refine⟨G,?_,ZA h.s.1 h.p.1,fun rt=>?_⟩
 ·have r:qo (t.blk z1 z2 row at_) 1=(t.kl:Int):=D;unfold YN yV;rw[r];refine decide_eq_false ?_;split
  ·omega
  ·simp
 ·obtain⟨-,d1,d2,V,S, -⟩:=o
  cases rt
  ·show 1<=t.i/\t.i<=_;omega
  ·show 1<=t.d/\t.d<=_;omega
theorem qiT {t:TreeV}{w:World}(h:TreeOk t kz z1 z2 w)(D:ParOk t.big (t.vN row at_))(la rt:Bool)(ds:List Int)(r o q:Value)(W:World)(b:Nat)
  (I:W.ownsRow b 5 1 o (mB t.big) ((t.blk z1 z2 row at_).map qp)) (O:Hold W q (yV row kz)) (J:Hold W r ds) (Z:ds.length<=1073741824):
  Calls Tryz.prog 64 #[.agg (Yf t.k o q la (t.outN rt) r)] W fun e w'=> ∃u,e= .returned (.tuple #[u,.int .i64 0])/\OwnB W.heap.size w' u (t.node kz z1 z2 row at_ la rt ds)/\Below W.heap.size W w':=by
 obtain⟨X,S,G,Y⟩:=h.okD2 D;rw[<-yX h.v];refine(J5 t.big _ _ ds la _ o q r W (Qf I G) O J (by omega) X S (Y rt)).mono ?_;rintro e w' ⟨⟨u,rfl,U⟩,V⟩
 exact⟨u,rfl,⟨yF t kz z1 z2 row at_ la rt ds,U⟩,V⟩
theorem qj1 (t:TreeV)(kz z1 z2 ds:List Int)(total:Nat)(ht:(total:Int)<=18446744073709551615)(row at_ q2 q3:Nat)(G O:Bool)(da:Option Addr)(dc:Nat)(w:World)(h:TreeOk t kz z1 z2 w)(hP:ParOk t.big (t.vN row at_))(hr:row<=255)
  (aT:t.spotE total (row:Nat) at_=0) (aO:t.spotR total (row:Nat) at_=⟨row,at_,q2,q3,G,O⟩) (hd:Hold w (.slice da ds.length dc) ds) (aF:ds.length<=1073741824):
  Calls Tryz.prog 95 #[t.val,.int .u64 total,.agg #[.int .i64 row,.int .u64 at_,.int .u64 q2,.int .u64 q3,.bool G,.bool O],.slice da ds.length dc] w fun e w'=> ∃u,e= .returned u/\OwnB w.heap.size w' u (t.node kz z1 z2 row at_ G O ds)/\Below w.heap.size w w':=by
 obtain⟨o,D⟩:=Ex w.heap.size;have e1:=yk h.s;have e2:=yk h.p;have e3:=yk h.k;have bb:=qn h.v;have bc:=QW h.v;have aY:sB t.big<=16:=by cases t.big<;>decide
 have X:=fun(W:World)=>zv t h.l total ht (row:Nat) at_ W
 rw[aO,aT]at X;unfold SpotV.val at X;simp only at X
 have aP:=hid X;have aW:=hid (fun(W:World) (hb:Below o w W)=>qhK t total (row:Nat) at_ aP W (hid (h.s.below (D▸hb)).holds8) (hid (h.p.below (D▸hb)).holds8) (hid h.s.1) (hid h.p.1) (hid (by omega)) (hid (by omega)));have ap:=fun(W:World) (b:Nat) (s p:Value) (a7:SideIs b W z1 s) (av:SideIs b W z2 p)=>qft t.big (t.vN row at_) z1 z2 s p b W hP a7 av h.s.1 h.p.1 (by omega) (by omega)
 simp only[TreeV.parN h.v h.l,yX h.v]at ap;have aU:=hid ap;have aH:=hid (fun(W:World) (hb:Below o w W) (bv kv:Value) (B:Nat) (ho:W.ownsRow B 5 1 bv (mB t.big) ((QV t.big (t.vN row at_) z1 z2).map qp)) (hk:Hold W kv (yV row kz))=>qiT (h.below (D▸hb)) hP G O ds (.slice da ds.length dc) bv kv W B ho hk (hd.below (D▸hb)) aF);have be:=hid h.k;clear bb bc X ap aT aO hP hd aF aY e1 e2 e3 h;unfold TreeV.val JK at*;go_enter Tryz.func95,Tryz.ntmps95
 go_upto_region 1 with(fail)
 refine qm ?_;intro wA aj;have aw:wA.heap[o]? =some (.cells t.c 26 (0,0)):=by rw[aj];exact(Bh _ _ _ (by simp;omega)).trans (qe _ _ D.symm)
 have ad:wA.heap[o+1]? =some (.cells #[.int .i64 row,.int .u64 at_,.int .u64 q2,.int .u64 q3,.bool G,.bool O] 96 (0,0)):=by rw[aj];exact qe _ _ (by simp;omega)
 have am:Below o w wA:=by rw[aj,<-D];exact(Br.alloc Nl _).alloc (by simp) _
 have ba:o+1<wA.heap.size:=(Ai ad).1;clear aj;have k0:wA.cell? ⟨o+1,0,none⟩=some (.int .i64 row):=qd ad 0;have k1:wA.cell? ⟨o+1,1,none⟩=some (.int .u64 at_):=qd ad 1;go_wp2_with (refine L26 o rfl aw ?_)
 refine(aW.out wA am).mono ?_;rintro e w2 ⟨sv,pv,rfl,ak,ax,ae⟩;have aI:=hid (qf aw ae);have aS:=hid (qf ad ae);have aN:=hid (am.trans (ae.mono (by omega)));have av:=ae.size;have aR:=hid ak;have aV:=hid ax;obtain⟨ar,aC,aq,rfl⟩: ∃a n c,sv= .slice a n c:=by
  rcases ak with⟨rfl, -⟩|⟨-,ho⟩
  ·exact⟨_,_,_,rfl⟩
  ·exact qr ho
 obtain⟨aA,aD,an,rfl⟩: ∃a n c,pv= .slice a n c:=by
  rcases ax with⟨rfl, -⟩|⟨-,ho⟩
  ·exact⟨_,_,_,rfl⟩
  ·exact qr ho
 clear ak ax ae aw ad am k0 k1 aW aP;go_upto_region 2 with((with_reducible show wpList _ _ _ (Oper.mk none (Op.store 179 _ _) _ _ _ _::_) _ _);refine wpList_store_row rfl 179 _ _ rfl w2.heap.size #[.int .i64 t.d,.int .i64 (t.kl:Nat),.int .i64 t.f,.int .i64 t.p,.int .u32 t.l,.int .u64 at_,.int .u32 0,.int .i64 row,.int .i64 t.i,.slice ar aC aq,.slice aA aD an] rfl rfl 179 _ (Wn _ _) (by kernel_rfl) rfl (by simp[Value.oneCell']) ?_)
 refine qm ?_;intro V hV;obtain⟨b3,Y⟩:=Ex w2.heap.size;have au:V.heap[b3]? =some (.cells #[.int .i64 t.d,.int .i64 (t.kl:Nat),.int .i64 t.f,.int .i64 t.p,.int .u32 t.l,.int .u64 at_,.int .u32 0,.int .i64 row,.int .i64 t.i,.slice ar aC aq,.slice aA aD an] 179 (0,0)):=by rw[hV,<-Y];exact setRow_heap _ _ _ _ _ _ (Wn _ _)
 have Z:Below b3 w2 V:=by rw[hV,<-Y];exact below_setRow (Br.alloc Nl _) Nl _
 have aM:=hid (show Below o w V from aN.out.trans (Z.mono (by omega)));have ah:=hid ((Z.block o (by omega)).trans aI.out);have ay:=hid ((Z.block (o+1) (by omega)).trans aS.out);have aK:=hid (aU.out V wA.heap.size (.slice ar aC aq) (.slice aA aD an) (Yj aR.out (Y▸Z)) (Yj aV.out (Y▸Z)));have bd:b3<V.heap.size:=(Ai au).1;have a3:o+1<V.heap.size:=by omega
 have aZ:o<V.heap.size:=by omega
 rw[Y];have c0:V.cell? ⟨o,0,none⟩=some (.int .i64 t.k):=qd ah.out 0;clear hV Z aN aI aS Y aU aR aV;go_wp2_with (refine L179 b3 rfl au ?_)
 refine aK.out.mono ?_;rintro e w4 ⟨⟨bv,rfl,al⟩,r⟩;obtain⟨a5,n5,k5,rfl⟩:=qr al;have aa:=qf ah.out r;have ai:=qf ay.out r;have ao:=hid aa;have aB:=hid ai;have a4:=r.size;have aQ:=hid al;have aJ:=hid (show Below o w w4 from aM.out.trans (r.mono (by omega)));have c0:w4.cell? ⟨o,0,none⟩=some (.int .i64 t.k):=qd aa 0;have c5:w4.cell? ⟨o,5,none⟩=some (.int .i64 t.i):=qd aa 5;have d4:w4.cell? ⟨o+1,4,none⟩=some (.bool G):=qd ai 4;have aX:o+1<w4.heap.size/\o<w4.heap.size:=by omega
 clear r al aa ai au aK aM ah ay bd;go_upto_region 4 with((with_reducible show wpList _ _ _ (Oper.mk none (Op.store 73 _ _) _ _ _ _::_) _ _);refine wpList_store_row rfl 73 _ _ rfl w4.heap.size #[.int .i64 t.k,.slice a5 n5 k5,.slice none 0 0,.bool G,.int .i64 t.i,.slice da ds.length dc] rfl rfl 73 _ (Wn _ _) (by kernel_rfl) rfl (by simp[Value.oneCell']) ?_)
 refine qm ?_;intro U hU;obtain⟨q,r⟩:=Ex w4.heap.size;have aG:U.heap[q]? =some (.cells #[.int .i64 t.k,.slice a5 n5 k5,.slice none 0 0,.bool G,.int .i64 t.i,.slice da ds.length dc] 73 (0,0)):=by rw[hU,<-r];exact setRow_heap _ _ _ _ _ _ (Wn _ _)
 have ac:Below q w4 U:=by rw[hU,<-r];exact below_setRow (Br.alloc Nl _) Nl _
 rw[r];have I:=hid (show U.heap[q]? =some (.cells #[.int .i64 t.k,.slice a5 n5 k5,.slice none 0 0,.bool G,.int .i64 t.i,.slice da ds.length dc] 73 (0,0))/\U.heap[o]? =some (.cells t.c 26 (0,0))/\U.heap[o+1]? =some (.cells #[.int .i64 row,.int .u64 at_,.int .u64 q2,.int .u64 q3,.bool G,.bool O] 96 (0,0))/\Below o w U/\U.ownsRow o 5 1 (.slice a5 n5 k5) (mB t.big) ((QV t.big (t.vN row at_) z1 z2).map qp) from⟨aG,(ac.block o (by omega)).trans ao.out,(ac.block (o+1) (by omega)).trans aB.out,aJ.out.trans (ac.mono (by omega)),ownsRow_le (qi aQ.out (fun g _ g2=>ac.block g (by omega))) (by omega)⟩);have bh:o+1<q:=by omega
 clear hU r aG ac ao aB aJ aQ c0 c5 d4 aX a4 a3 aZ av ba;have d5:U.cell? ⟨o+1,5,none⟩=some (.bool O):=qd I.out.2.2.1 5;have S:q<U.heap.size/\o<U.heap.size/\o+1<U.heap.size:=by have:=(Ai I.out.1).1;omega
 obtain⟨S,af,ag⟩:=S;have c1:U.cell? ⟨o,1,none⟩=some (.int .i64 t.d):=qd I.out.2.1 1;have c4:U.cell? ⟨q,4,none⟩=some (.int .i64 t.i):=qd I.out.1 4;have f4:=frozen_of_row U q 4 _ _ I.out.1;go_upto_if 43 with(fail)
 go_cut [13] (fun u W=>u= .pointer (some ⟨q,0,none⟩)/\W.heap[q]? =some (.cells #[.int .i64 t.k,.slice a5 n5 k5,.slice none 0 0,.bool G,.int .i64 (t.outN O),.slice da ds.length dc] 73 (0,0))/\W.heap[o]? =some (.cells t.c 26 (0,0))/\W.heap[o+1]? =some (.cells #[.int .i64 row,.int .u64 at_,.int .u64 q2,.int .u64 q3,.bool G,.bool O] 96 (0,0))/\Below o w W/\W.ownsRow o 5 1 (.slice a5 n5 k5) (mB t.big) ((QV t.big (t.vN row at_) z1 z2).map qp))
 case first=>
  cases O
  ·go_wp2_with fail
   go_meet
   case rel=>exact⟨rfl,I.out⟩
  ·go_wp2_with fail
   go_meet
   case rel=>
    obtain⟨r1,r2,r3,r4,r5⟩:=I.out;exact⟨rfl,heap_setCell_same U q 4 _ _ (.int .i64 t.d) r1,(heap_setCell_other U ⟨q,4,none⟩ o (.int .i64 t.d) (show o≠q by omega)).trans r2,(heap_setCell_other U ⟨q,4,none⟩ (o+1) (.int .i64 t.d) (show o+1≠q by omega)).trans r3,r4.setCell (show o<=q by omega) _,Ql r5 r1 4 (.int .i64 t.d) (by decide)⟩
 case rest=>
  obtain⟨rfl,aL⟩:=hcut;have J:=hid aL;clear aL I d5 S af ag c1 c4 f4;clear U;have S:q<wc.heap.size/\o<wc.heap.size/\o+1<wc.heap.size:=by have:=(Ai J.out.1).1;omega
  obtain⟨S,af,ag⟩:=S;have d0:wc.cell? ⟨o+1,0,none⟩=some (.int .i64 row):=qd J.out.2.2.1 0;have c6:wc.cell? ⟨o,6,none⟩=some (.slice t.ka t.kl t.kc):=qd J.out.2.1 6;have c2:wc.cell? ⟨q,2,none⟩=some (.slice none 0 0):=qd J.out.1 2;have f2:=frozen_of_row wc q 2 _ _ J.out.1;obtain⟨U,rfl⟩: ∃U,U=wc:=⟨_,rfl⟩;go_upto_if 49 with(fail)
  go_cut [13] (fun u W=>u= .pointer (some ⟨q,0,none⟩)/\ ∃a6 n6 c6,Hold W (.slice a6 n6 c6) (yV row kz)/\W.heap[q]? =some (.cells #[.int .i64 t.k,.slice a5 n5 k5,.slice a6 n6 c6,.bool G,.int .i64 (t.outN O),.slice da ds.length dc] 73 (0,0))/\W.heap[o]? =some (.cells t.c 26 (0,0))/\W.heap[o+1]? =some (.cells #[.int .i64 row,.int .u64 at_,.int .u64 q2,.int .u64 q3,.bool G,.bool O] 96 (0,0))/\Below o w W/\W.ownsRow o 5 1 (.slice a5 n5 k5) (mB t.big) ((QV t.big (t.vN row at_) z1 z2).map qp))
  case first=>
   by_cases az:row=0
   ·have hq:(row:Int)=0:=by omega
    go_wp2_with fail
    go_meet
    case rel=>
     obtain⟨r1,r2,r3,r4,r5⟩:=J.out;have ab:Below o w (U.setCell ⟨q,2,none⟩ (.slice t.ka t.kl t.kc)):=r4.setCell (show o<=q by omega) _;exact⟨rfl,_,_,_,(by unfold yV;rw[if_pos az];exact be.out.below (D▸ab)),heap_setCell_same U q 2 _ _ _ r1,(heap_setCell_other U ⟨q,2,none⟩ o _ (show o≠q by omega)).trans r2,(heap_setCell_other U ⟨q,2,none⟩ (o+1) _ (show o+1≠q by omega)).trans r3,ab,Ql r5 r1 2 _ (by decide)⟩
   ·have hq: ¬((row:Int)=0):=by omega
    go_wp2_with fail
    go_meet
    case rel=>exact⟨rfl,none,0,0,(by unfold yV;rw[if_neg az];exact Hold.nil _),J.out⟩
  case rest=>
   obtain⟨rfl,a6,n6,bf,hk,r1,r2,r3,r4,r5⟩:=hcut;have bg:=hid r1;have aE:=hid (aH.out wc r4 (.slice a5 n5 k5) (.slice a6 n6 bf) o r5 hk);have a9:=hid r4;have bi:q<wc.heap.size:=(Ai r1).1;clear hk r1 r2 r3 r4 r5 J aH d0 c6 c2 f2 S af ag;go_wp2_with (refine L73 q rfl bg.out ?_)
   refine aE.out.mono ?_;rintro e w9 ⟨u,rfl,hu,ab⟩;have HU:=hid (hu.le (show o<=wc.heap.size by omega));have a8:=hid (a9.out.trans (ab.mono (by omega)));clear hu ab;go_wp2_with fail
   go_ret
   exact⟨_,rfl,by rw[D];exact HU.out,by rw[D];exact a8.out⟩
theorem qdU {t:TreeV}{w0:World}(h:TreeOk t kz z1 z2 w0)(G:ParOk t.big (t.vN row at_))(la rt:Bool)(ds:List Int)(D q o r:Value)(w:World)(b:Nat)
  (h1:SideIs b w z1 q) (U:SideIs b w z2 o) (X:Hold w r (yV row kz)) (hD:Hold w D ds) (ab:ds.length<=1073741824):
  Calls Tryz.prog 129 #[.int .i64 (kB t.big),parN (t.vN row at_) q o,r,.bool la,.int .i64 (t.outN rt),D] w fun e w'=>(∃u,e= .returned (.tuple #[u,.int .i64 0])/\OwnB w.heap.size w' u (t.node kz z1 z2 row at_ la rt ds))/\Below w.heap.size w w':=by
 have ac:=qn h.v;have aa:=QW h.v;have e1:=yk h.s;have e2:=yk h.p;have S:=yk h.k;obtain⟨Z,k1,m1,f1⟩:=ZJ h1 h.s.1;obtain⟨V,Y,m2,f2⟩:=ZJ U h.p.1;obtain⟨-, -, -,h4⟩:=h.okD2 G;have I:(yV row kz).length<=mB t.big:=by
  unfold yV;split
  ·omega
  ·simp
 have J:(yV row kz).length=0\/(yV row kz).length=t.vN row at_ 2:=by
  unfold yV;split
  ·exact .inr S
  ·exact .inl rfl
 refine(qb3 t.big (t.vN row at_) Z V (yV row kz) ds la (t.outN rt) q o r D w G k1 Y (by omega) (by omega) X I J hD (by omega) (by have:=h4 rt;omega)).mono ?_;rintro e w' ⟨⟨u,rfl,O⟩,hb⟩
 rw[qaR (by omega) (by omega) f1 f2]at O;exact⟨⟨u,rfl,⟨yF t kz z1 z2 row at_ la rt ds,O⟩⟩,hb⟩
theorem qgd (t:TreeV)(kz z1 z2 ds:List Int)(total:Nat)(ht:(total:Int)<=18446744073709551615)(row at_ q2 q3:Nat)(q4 J:Bool)(da:Option Addr)(dc:Nat)(w:World)(h:TreeOk t kz z1 z2 w)(hP:ParOk t.big (t.vN row at_))(hr:row<=255)
  (aF:t.spotE total (row:Nat) at_=0) (aA:t.spotR total (row:Nat) at_=⟨row,at_,q2,q3,q4,J⟩) (hd:Hold w (.slice da ds.length dc) ds) (au:ds.length<=1073741824):
  Calls Tryz.prog 102 #[t.val,.int .u64 total,.agg #[.int .i64 row,.int .u64 at_,.int .u64 q2,.int .u64 q3,.bool q4,.bool J],.slice da ds.length dc] w fun e w'=> ∃u,e= .returned u/\OwnB w.heap.size w' u (t.node kz z1 z2 row at_ q4 J ds)/\Below w.heap.size w w':=by
 obtain⟨o,q⟩:=Ex w.heap.size;have e1:=yk h.s;have e2:=yk h.p;have e3:=yk h.k;have aM:=qn h.v;have aN:=QW h.v;have aI:sB t.big<=16:=by cases t.big<;>decide
 have D:=fun(W:World)=>yQ t h.l total ht (row:Nat) at_ W
 rw[aA,aF]at D;unfold SpotV.val at D;simp only at D
 have aB:=hid D;have aH:=hid (fun(W:World) (X:Below o w W)=>JZ t total (row:Nat) at_ aB W (hid (h.s.below (q▸X)).holds8) (hid (h.p.below (q▸X)).holds8) (hid h.s.1) (hid h.p.1) (hid (by omega)) (hid (by omega)));have af:=fun(W:World) (X:Below o w W) (b:Nat) (s p kv:Value) (aJ:SideIs b W z1 s) (aC:SideIs b W z2 p) (hk:Hold W kv (yV row kz))=>qdU h hP q4 J ds (.slice da ds.length dc) s p kv W b aJ aC hk (hd.below (q▸X)) au
 simp only[TreeV.parN h.v h.l,yX h.v]at af;have av:=hid af;have aO:=hid h.k;clear aM aN D af aF aA hP hd au aI e1 e2 e3 h;unfold TreeV.val JK at*;go_enter Tryz.func102,Tryz.ntmps102
 go_upto_region 1 with(fail)
 refine qm ?_;intro Y ad;have am:Y.heap[o]? =some (.cells t.c 26 (0,0)):=by rw[ad];exact(Bh _ _ _ (by simp;omega)).trans (qe _ _ q.symm)
 have Z:Y.heap[o+1]? =some (.cells #[.int .i64 row,.int .u64 at_,.int .u64 q2,.int .u64 q3,.bool q4,.bool J] 96 (0,0)):=by rw[ad];exact qe _ _ (by simp;omega)
 have ag:Below o w Y:=by rw[ad,<-q];exact(Br.alloc Nl _).alloc (by simp) _
 have aS:o+1<Y.heap.size:=(Ai Z).1;clear ad;have k0:Y.cell? ⟨o+1,0,none⟩=some (.int .i64 row):=qd Z 0;have k1:Y.cell? ⟨o+1,1,none⟩=some (.int .u64 at_):=qd Z 1;go_wp2_with (refine L26 o rfl am ?_)
 refine(aH.out Y ag).mono ?_;rintro e w2 ⟨sv,pv,rfl,ae,an,aa⟩;have aw:=hid (qf am aa);have aE:=hid (qf Z aa);have az:=hid (ag.trans (aa.mono (by omega)));have aC:=aa.size;have aD:=hid ae;have aG:=hid an;obtain⟨ak,aq,ai,rfl⟩: ∃a n c,sv= .slice a n c:=by
  rcases ae with⟨rfl, -⟩|⟨-,ho⟩
  ·exact⟨_,_,_,rfl⟩
  ·exact qr ho
 obtain⟨ap,ar,ah,rfl⟩: ∃a n c,pv= .slice a n c:=by
  rcases an with⟨rfl, -⟩|⟨-,ho⟩
  ·exact⟨_,_,_,rfl⟩
  ·exact qr ho
 clear ae an aa am Z ag k0 k1 aH aB;go_upto_region 2 with((with_reducible show wpList _ _ _ (Oper.mk none (Op.store 179 _ _) _ _ _ _::_) _ _);refine wpList_store_row rfl 179 _ _ rfl w2.heap.size #[.int .i64 t.d,.int .i64 (t.kl:Nat),.int .i64 t.f,.int .i64 t.p,.int .u32 t.l,.int .u64 at_,.int .u32 0,.int .i64 row,.int .i64 t.i,.slice ak aq ai,.slice ap ar ah] rfl rfl 179 _ (Wn _ _) (by kernel_rfl) rfl (by simp[Value.oneCell']) ?_)
 refine qm ?_;intro V hV;obtain⟨b3,G⟩:=Ex w2.heap.size;have al:V.heap[b3]? =some (.cells #[.int .i64 t.d,.int .i64 (t.kl:Nat),.int .i64 t.f,.int .i64 t.p,.int .u32 t.l,.int .u64 at_,.int .u32 0,.int .i64 row,.int .i64 t.i,.slice ak aq ai,.slice ap ar ah] 179 (0,0)):=by rw[hV,<-G];exact setRow_heap _ _ _ _ _ _ (Wn _ _)
 have r:Below b3 w2 V:=by rw[hV,<-G];exact below_setRow (Br.alloc Nl _) Nl _
 have ac:=hid (show Below o w V from az.out.trans (r.mono (by omega)));have S:=hid ((r.block o (by omega)).trans aw.out);have ab:=hid ((r.block (o+1) (by omega)).trans aE.out);have ax:=hid (fun(W:World) (X:Below V.heap.size V W) (kv:Value) (hk:Hold W kv (yV row kz))=>av.out W (ac.out.trans (X.mono (by have:=r.size;omega))) Y.heap.size (.slice ak aq ai) (.slice ap ar ah) kv (Yj (Yj aD.out (G▸r)) X) (Yj (Yj aG.out (G▸r)) X) hk);have aU:b3<V.heap.size:=(Ai al).1;have aR:o+1<V.heap.size:=by omega
 have aQ:o<V.heap.size:=by omega
 rw[G];have c6:V.cell? ⟨o,6,none⟩=some (.slice t.ka t.kl t.kc):=qd S.out 6;have c5:V.cell? ⟨o,5,none⟩=some (.int .i64 t.i):=qd S.out 5;have c1:V.cell? ⟨o,1,none⟩=some (.int .i64 t.d):=qd S.out 1;have c0:V.cell? ⟨o,0,none⟩=some (.int .i64 t.k):=qd S.out 0;have d0:V.cell? ⟨o+1,0,none⟩=some (.int .i64 row):=qd ab.out 0;have d4:V.cell? ⟨o+1,4,none⟩=some (.bool q4):=qd ab.out 4;have d5:V.cell? ⟨o+1,5,none⟩=some (.bool J):=qd ab.out 5;have aL:=hid al;clear hV r az aw aE G av aD aG al;go_upto_if 27 with(fail)
 go_cut [11] (fun u W=>W=V/\ ∃a6 n6 c6,u= .slice a6 n6 c6/\Hold V (.slice a6 n6 c6) (yV row kz))
 case first=>
  by_cases ao:row=0
  ·have hq:(row:Int)=0:=by omega
   go_wp2_with fail
   go_meet
   case rel=>exact⟨rfl,_,_,_,rfl,(by unfold yV;rw[if_pos ao];exact aO.out.below (q▸ac.out))⟩
  ·have hq: ¬((row:Int)=0):=by omega
   go_wp2_with fail
   go_meet
   case rel=>exact⟨rfl,none,0,0,rfl,(by unfold yV;rw[if_neg ao];exact Hold.nil _)⟩
 case rest=>
  obtain⟨aj,a6,n6,aP,rfl,hk⟩:=hcut;obtain rfl:V=wc:=aj.symm;have I:=hid (ax.out V Br (.slice a6 n6 aP) hk);clear hk ax;go_upto_if 33 with(fail)
  go_cut [12] (fun u W=>W=V/\u= .int .i64 (t.outN J))
  case first=>
   cases J
   ·go_wp2_with fail
    go_meet
    case rel=>exact⟨rfl,rfl⟩
   ·go_wp2_with fail
    go_meet
    case rel=>exact⟨rfl,rfl⟩
  case rest=>
   obtain⟨aj,rfl⟩:=hcut;obtain rfl:V=wc:=aj.symm;obtain⟨O,hO⟩:=Ex (t.outN J);have U:=I.out;rw[hO]at U⊢;have I:=hid U;clear U hO;have aT:=ac.out.size;go_wp2_with (refine L179 b3 rfl aL.out ?_)
   refine I.out.mono ?_;rintro e w9 ⟨⟨u,rfl,hu⟩,ay⟩;have HU:=hid (hu.le (show o<=V.heap.size by omega));have aK:=hid (ac.out.trans (ay.mono (by omega)));clear hu ay;go_wp2_with fail
   go_ret
   exact⟨_,rfl,by rw[q];exact HU.out,by rw[q];exact aK.out⟩
structure SpotOk (t:TreeV)(total:Nat)(S:SpotV):Prop where
 p:ParOk t.big (t.vN S.row S.at_)
 r:S.row<=255
 e:t.spotE total (S.row:Nat) S.at_=0
 s:t.spotR total (S.row:Nat) S.at_=S
def TreeV.giveZ (t:TreeV)(kz z1 z2:List Int)(S:SpotV)(ds:List Int):List Int:=t.node kz z1 z2 S.row S.at_ S.last S.root ds
theorem qfn (t:TreeV)(kz z1 z2 ds:List Int)(total:Nat)(J:(total:Int)<=18446744073709551615)(S:SpotV)(D:Option Addr)(q:Nat)(w:World)(h:TreeOk t kz z1 z2 w)(o:SpotOk t total S)(I:Hold w (.slice D ds.length q) ds)(G:ds.length<=1073741824):
  Calls Tryz.prog 95 #[t.val,.int .u64 total,.agg #[.int .i64 (S.row:Nat),.int .u64 (S.at_:Nat),.int .u64 (S.frm:Nat),.int .u64 (S.to_:Nat),.bool S.last,.bool S.root],.slice D ds.length q] w fun e w'=> ∃u,e= .returned u/\OwnB w.heap.size w' u (t.giveZ kz z1 z2 S ds)/\Below w.heap.size w w':=
 qj1 t kz z1 z2 ds total J S.row S.at_ S.frm S.to_ S.last S.root D q w h o.p o.r o.e o.s I G
theorem qiJ (t:TreeV)(kz z1 z2 ds:List Int)(total:Nat)(Z:(total:Int)<=18446744073709551615)(S:SpotV)(J G D:Nat)(leaf:Nat)(u:Value)(I:Option Addr)(r:Nat)(w:World)(h:TreeOk t kz z1 z2 w)(X:SpotOk t total S)(U:Hold w (.slice I ds.length r) ds)(o:ds.length<=1073741824)
  (hT:w.heap[J]? =some (.cells t.c 26 (0,0))) (O:w.heap[G]? =some (.cells #[.int .u64 total,.int .u64 leaf,u] 55 (0,0))) (hs:w.heap[D]? =some (.cells #[.int .i64 (S.row:Nat),.int .u64 (S.at_:Nat),.int .u64 (S.frm:Nat),.int .u64 (S.to_:Nat),.bool S.last,.bool S.root] 96 (0,0))):
  Calls Tryz.prog 94 #[.slice I ds.length r,.pointer (some ⟨J,0,none⟩),.pointer (some ⟨G,0,none⟩),.pointer (some ⟨D,0,none⟩)] w fun e w'=> ∃u,e= .returned u/\OwnB w.heap.size w' u (t.giveZ kz z1 z2 S ds)/\Below w.heap.size w w':=by
 have V:=hid (qfn t kz z1 z2 ds total Z S I r w h X U o);have c0:w.cell? ⟨G,0,none⟩=some (.int .u64 total):=qd O 0;have aa:=(Ai O).1;clear h X U o Z;unfold TreeV.val at V;go_enter Tryz.func94,Tryz.ntmps94
 go_wp2_with (first|(refine L26 J rfl hT ?_)|(refine L96 D rfl hs ?_))
 refine V.out.mono ?_;rintro e w2 ⟨x,rfl,Y,q⟩;have HX:=hid Y;have HB:=hid q;clear Y q;go_wp2_with fail
 go_ret
 exact⟨_,rfl,HX.out,HB.out⟩
def JL (st:Qd)(D:List Int):List Int:=qL st.1 st.1.length++D++qL st.2 st.2.length
theorem JX {m:Nat}{ds:List (List Int)}(h: ∀d∈ds,d.length<=m): ∀k,k<=ds.length->(qL ds k).length<=k*m
 | 0,_=>Nat.zero_le _
 | k+1,hk=>by
  have o:=JX h k (by omega);have q:=h _ (yb (k:=k) (by omega));simp only[qL,List.length_append,Nat.add_mul,Nat.one_mul];omega
theorem qiI (t:TreeV)(kz z1 z2 D:List Int)(total:Nat)(ht:(total:Int)<=18446744073709551615)(S:SpotV)(ch:Value)(r:Qd)(bt bp bi bg bu ou k n uc leaf:Nat)(U V da:Value)(w:World)(h:TreeOk t kz z1 z2 w)(hS:SpotOk t total S)(hd:Hold w da D)(a6:D≠[])(bd:D.length<=64)(bj:1<=t.i/\t.i<=64)
  (hT:w.heap[bt]? =some (.cells t.c 26 (0,0))) (hp:w.heap[bp]? =some (.cells #[.int .u64 total,.int .u64 leaf,.slice (some ⟨bu,ou,none⟩) n uc] 55 (0,0))) (hi:w.heap[bi]? =some (.cells #[.int .i64 k] 3 (0,0))) (hg:w.heap[bg]? =some (.cells #[.int .i64 (S.row:Nat),.int .u64 (S.at_:Nat),.int .u64 (S.frm:Nat),.int .u64 (S.to_:Nat),.bool S.last,.bool S.root,ch] 131 (0,0)))
  (hk:k<n) (hU:w.cell? ⟨bu,ou+k*2,none⟩=some U) (hV:w.cell? ⟨bu,ou+k*2+1,none⟩=some V) (aV:bu<w.heap.size) (ap:pRowsAt w U r.1) (am:pRowsAt w V r.2) (af:qhn 1048576 r.1/\qhn 1048576 r.2) (ai: ∀d∈r.1++r.2,(d.length:Int)=t.i):
  Calls Tryz.prog 96 #[da,.pointer (some ⟨bp,0,none⟩),.pointer (some ⟨bi,0,none⟩),.pointer (some ⟨bt,0,none⟩),.pointer (some ⟨bg,0,none⟩)] w fun e w'=> ∃u,e= .returned u/\OwnB w.heap.size w' u (t.giveZ kz z1 z2 S (JL r D))/\Below w.heap.size w w':=by
 obtain⟨b0,J⟩:=Ex w.heap.size;obtain⟨a0,c0,rfl, -, -⟩:=id hd.slice;have HD:=hid hd;have c2:w.cell? ⟨bp,2,none⟩=some (.slice (some ⟨bu,ou,none⟩) n uc):=qd hp 2;have ci:w.cell? ⟨bi,0,none⟩=some (.int .i64 k):=qd hi 0;have bv:=(Ai hp).1;have bm:=(Ai hi).1;have bs:(k:Int)<(n:Int):=by omega
 have HT:=hid hT;have HP:=hid hp;have HI:=hid hi;have aU:=hid hg;have aw:=hid ap;have al:=hid am;obtain⟨au,ku,VU,eu, -, -⟩:=id ap;obtain⟨av,kv,VV,ev, -, -⟩:=id am;rw[eu]at hU aw;rw[ev]at hV al;have aq: ∀d∈r.1,d.length=t.i.toNat:=fun d hd=>by have:=ai d (List.mem_append_left _ hd);omega
 have ad: ∀d∈r.2,d.length=t.i.toNat:=fun d hd=>by have:=ai d (List.mem_append_right _ hd);omega
 have aj:=hid (JX (m:=64) (fun d hd=>by have:=aq d hd;omega));have aI:=hid (JX (m:=64) (fun d hd=>by have:=ad d hd;omega));have aT:=hid aq;have a8:=hid ad;have aY:=hid (fun d hd=>(af.1.2 d hd).2);have aP:=hid (fun d hd=>(af.2.2 d hd).2);obtain⟨nb,ag⟩:=Ex r.1.length;obtain⟨na,ah⟩:=Ex r.2.length;have ba:nb<=1048576:=by rw[<-ag];exact af.1.1
 have bc:na<=1048576:=by rw[<-ah];exact af.2.1
 rw[ag]at hU aw aj;rw[ah]at hV al aI;have aD:=hid ag;have aC:=hid ah;have aN:=hid (show JL r D=qL r.1 nb++D++qL r.2 na by unfold JL;rw[ag,ah]);have aJ:=hid (fun(W:World) (I:Below b0 w W) (xa:Option Addr) (xc:Nat) (hx:Hold W (.slice xa (qL r.1 nb++D++qL r.2 na).length xc) (qL r.1 nb++D++qL r.2 na)) (a5:(qL r.1 nb++D++qL r.2 na).length<=1073741824)=>qfn t kz z1 z2 (qL r.1 nb++D++qL r.2 na) total ht S xa xc W (h.below (J▸I)) hS hx a5);clear h hS hd hT hp hi hg ap am af ai aq ad ag ah eu ev ht;go_enter Tryz.func96,Tryz.ntmps96
 go_wp2_with fail
 go_loopw [19,7] (fun i o wr=> ∃(j:Nat) (v:Value),i= .int .i64 j/\o=v/\j<=nb/\wr.ownsRow b0 5 1 v (qL r.1 j).length ((qL r.1 j).map qp)/\Below b0 w wr) (fun i _ _=>nb - (intOf i).toNat)
 case atStart=>exact⟨0,_,rfl,rfl,Nat.zero_le _,Wo _ _ _ _,Below.refl _ _⟩
 case round=>
  obtain⟨j,v,rfl,rfl,hj,G,I⟩:=hrel;have Z:b0<=wr.heap.size:=by have:=I.size;omega
  by_cases ay:j<nb
  case pos=>
   have aO:(j:Int)<(nb:Int):=by omega
   obtain⟨-,b',o',x,cx,rfl,a3,az,an⟩:=pRowsAt.elem (aw.out.below (J▸I)) ay;have ac:(Qs r.1 j).length=t.i.toNat:=aT.out _ (yb (by have:=aD.out;omega));have ak:Qs r.1 j≠[]:=fun e=>by rw[e]at ac;simp at ac;omega
   have ax:(qL r.1 j).length+(Qs r.1 j).length<=1099511627776:=by
    have:=aj.out j (by omega)
    omega
   have aa:=hid G;have HB:=hid I;clear G I ac;go_wp2_with (at_builtin;refine yE rfl _ _ rfl b0 (qL r.1 j) _ rfl aa.out _ (Qs r.1 j) rfl an ak ax Z ?_;intro v' w' Y X)
   refine⟨⟨j+1,v',by go_num,rfl,by omega,by rw[qL];exact Y,HB.out.grown X Z (fun k e=>(aa.out.lt k e).1)⟩,by simp[intOf]<;>omega⟩
  obtain rfl:j=nb:=by omega
  have a9:(qL r.1 j).length+D.length<=1099511627776:=by
   have:=aj.out j (by omega)
   omega
  have aE:=(HD.out.below (J▸I)).holds8;have aa:=hid G;have HB:=hid I;have a4:wr.cell? ⟨bp,2,none⟩=some (.slice (some ⟨bu,ou,none⟩) n uc):=qd (qf HP.out (J▸I)) 2;have aW:wr.cell? ⟨bi,0,none⟩=some (.int .i64 k):=qd (qf HI.out (J▸I)) 0;clear G I;go_upto_region 8 with(at_builtin;refine yE rfl _ _ rfl b0 (qL r.1 j) _ rfl aa.out _ D rfl aE a6 a9 Z ?_;intro v' w' Y X)
  have ae:=HB.out.grown X Z (fun k e=>(aa.out.lt k e).1);have aA:=hid Y;have aG:=hid ae;have aZ:b0<=w'.heap.size:=by have:=ae.size;omega
  have a7:w'.cell? ⟨bp,2,none⟩=some (.slice (some ⟨bu,ou,none⟩) n uc):=qd (qf HP.out (J▸ae)) 2;have aQ:w'.cell? ⟨bi,0,none⟩=some (.int .i64 k):=qd (qf HI.out (J▸ae)) 0;have aK:bp<w'.heap.size:=by omega
  have aL:bi<w'.heap.size:=by omega
  have aX:w'.cell? ⟨bu,ou+k*2+1,none⟩=some (.slice av na kv):=((J▸ae:Below w.heap.size w w').cell (p:=⟨bu,ou+k*2+1,none⟩) aV).trans hV;have aM:bu<w'.heap.size:=by omega
  clear aa HB Y X ae aE a4 aW Z;clear wr;go_wp2_with fail
  go_loopw [37,7] (fun i o wr=> ∃(O:Nat) (v:Value),i= .int .i64 O/\o=v/\O<=na/\wr.ownsRow b0 5 1 v (qL r.1 j++D++qL r.2 O).length ((qL r.1 j++D++qL r.2 O).map qp)/\Below b0 w wr) (fun i _ _=>na - (intOf i).toNat)
  case atStart=>exact⟨0,_,rfl,rfl,Nat.zero_le _,by rw[show qL r.2 0=[] from rfl,List.append_nil];exact aA.out,aG.out⟩
  case round=>
   clear aA aG aZ a7 aQ aK aL aX aM;obtain⟨O,v,rfl,rfl,br,G,I⟩:=hrel;have Z:b0<=wr.heap.size:=by have:=I.size;omega
   have aB:=aj.out j (by omega);have ad:=aI.out O (by omega);by_cases ay:O<na
   case pos=>
    have aO:(O:Int)<(na:Int):=by omega
    obtain⟨-,b',o',x,cx,rfl,a3,az,an⟩:=pRowsAt.elem (al.out.below (J▸I)) ay;have ac:(Qs r.2 O).length=t.i.toNat:=a8.out _ (yb (by have:=aC.out;omega));have ak:Qs r.2 O≠[]:=fun e=>by rw[e]at ac;simp at ac;omega
    have ax:(qL r.1 j++D++qL r.2 O).length+(Qs r.2 O).length<=1099511627776:=by
     rw[List.length_append,List.length_append];omega
    have aa:=hid G;have HB:=hid I;clear G I ac aB ad;go_wp2_with (at_builtin;refine yE rfl _ _ rfl b0 (qL r.1 j++D++qL r.2 O) _ rfl aa.out _ (Qs r.2 O) rfl an ak ax Z ?_;intro v' w' Y X)
    refine⟨⟨O+1,v',by go_num,rfl,by omega,by rw[show qL r.1 j++D++qL r.2 (O+1)=qL r.1 j++D++qL r.2 O++Qs r.2 O by simp[qL]];exact Y,HB.out.grown X Z (fun k e=>(aa.out.lt k e).1)⟩,by simp[intOf]<;>omega⟩
   obtain rfl:O=na:=by omega
   obtain⟨va,vn,vc,rfl⟩:=qr G;obtain rfl:=yJ G;have aH: ∀z∈qL r.1 j++D++qL r.2 O,0<=z/\z<=255:=by
    have key: ∀(ds:List (List Int)) (h: ∀d∈ds,qap d) (q:Nat),q<=ds.length-> ∀z∈qL ds q,0<=z/\z<=255:=by
     intro ds h q;induction q with
     | zero=>intro _ z hz;cases hz
     | succ q ih=>
      intro hq z hz;rcases List.mem_append.1 hz with h8|h8
      ·exact ih (by omega) z h8
      ·exact h _ (yb (by omega)) z h8
    intro z hz;rcases List.mem_append.1 hz with h8|h8
    ·rcases List.mem_append.1 h8 with h9|h9
     ·exact key _ aY.out _ (by have:=aD.out;omega) z h9
     ·exact HD.out.1 z h9
    ·exact key _ aP.out _ (by have:=aC.out;omega) z h8
   have ao:=aJ.out wr I va vc (Qf G aH) (by rw[List.length_append,List.length_append];omega);rw[<-aN.out]at ao G⊢;have ar:=hid ao;have HB:=hid I;have aR:=qf HT.out (J▸I);have ab:=qf aU.out (J▸I);have bf:wr.cell? ⟨bp,0,none⟩=some (.int .u64 total):=qd (qf HP.out (J▸I)) 0;have bb:bp<wr.heap.size:=by omega
   clear ao G I aH aJ aB ad;unfold TreeV.val at ar;have bl:wr.cell? ⟨bg,0,none⟩=some (.int .i64 (S.row:Nat)):=qd ab 0;have bk:wr.cell? ⟨bg,1,none⟩=some (.int .u64 (S.at_:Nat)):=qd ab 1;have bo:wr.cell? ⟨bg,2,none⟩=some (.int .u64 (S.frm:Nat)):=qd ab 2;have bh:wr.cell? ⟨bg,3,none⟩=some (.int .u64 (S.to_:Nat)):=qd ab 3;have bq:wr.cell? ⟨bg,4,none⟩=some (.bool S.last):=qd ab 4;have be:wr.cell? ⟨bg,5,none⟩=some (.bool S.root):=qd ab 5;have bn:bg<wr.heap.size:=(Ai ab).1;go_wp2_with (refine L26 bt rfl aR ?_)
   refine ar.out.mono ?_;rintro e w9 ⟨x,rfl,hx,aF⟩;have HX:=hid (hx.le Z);have aS:=hid (HB.out.trans (aF.mono Z));clear hx aF;go_wp2_with fail
   go_ret
   exact⟨_,rfl,by rw[J];exact HX.out,by rw[J];exact aS.out⟩
theorem qid {big:Bool}{q ds:List Int}{la:Bool}{o:Int}(h:1<=o/\o<=(mB big:Nat)):((Jz big q kz la o ds).length:Int)=o:=by
 unfold Jz;rw[List.length_take,Zs];omega
theorem JC {t:TreeV}(h:t.validE=0)(rt:Bool):1<=t.outN rt/\t.outN rt<=(mB t.big:Nat):=by
 have o:=QW h;obtain⟨-,d1,d2,r,q, -⟩:=qn h
 cases rt
 ·show 1<=t.i/\t.i<=_;omega
 ·show 1<=t.d/\t.d<=_;omega
theorem je {t:TreeV}(h:t.validE=0)(kz z1 z2:List Int)(row i:Nat)(la rt:Bool)(d:List Int):((t.node kz z1 z2 row i la rt d).length:Int)=t.outN rt:=qid (JC h rt)
theorem yP (t:TreeV)(kz z1 z2:List Int)(row:Nat)(rt:Bool)(L:List (List Int)){m i:Nat}(h:i<m):qC (t.rowZ kz z1 z2 row rt L m) i=t.node kz z1 z2 row i (decide (i+1=L.length)) rt (qC L i):=by
 simp[qC,TreeV.rowZ,Lg,h]
def TreeV.pathR (t:TreeV)(kz z1 z2:List Int)(total leaf:Nat)(ss:List Qd)(piece:List Int):Nat->List Int
 | 0=>t.giveZ kz z1 z2 (qu t total leaf 0) piece
 | k+1=>t.giveZ kz z1 z2 (qu t total leaf (k+1)) (JL (qy ss k) (t.pathR kz z1 z2 total leaf ss piece k))
def qeY (t:TreeV)(kz z1 z2:List Int)(total leaf:Nat)(ss:List Qd)(piece:List Int):Nat->List Int
 | 0=>piece
 | k+1=>t.pathR kz z1 z2 total leaf ss piece k
theorem qbQ {t:TreeV}(S:0<=t.l/\t.l<=4294967295)(Y:(total:Int)<=18446744073709551615)(h:t.spotE total 0 leaf=0){k:Nat}(I:k<(t.rowsOf total).length):SpotOk t total (qu t total leaf k):=by
 have o:t.err total=0:=by
  by_cases G:t.err total=0
  ·exact G
  ·unfold TreeV.spotE at h;rw[if_pos G]at h;exact absurd h G
 have q:leaf<nth (t.rowsOf total) 0:=by
  unfold TreeV.spotE at h;rw[if_neg (by simp[o])]at h;by_cases D:t.there total 0 leaf
  ·exact D.2.2
  ·rw[if_neg D]at h;omega
 have V:=qG o;obtain⟨U,X,r,J, -⟩:=jh o q I;have O:=qem S Y o I (Yc V q k I);refine⟨by rw[r,J];exact O.1,by rw[r];exact O.2,by rw[r,J];exact U,by rw[r,J];exact X⟩
theorem qbx {t:TreeV}(h:t.validE=0)(kz z1 z2:List Int)(S:SpotV)(ds:List Int):(t.giveZ kz z1 z2 S ds).length<=64/\t.giveZ kz z1 z2 S ds≠[]:=by
 have q:=je h kz z1 z2 S.row S.at_ S.last S.root ds;have D:=JC h S.root;have r:mB t.big<=64:=by cases t.big<;>decide
 refine⟨?_,fun e=>?_⟩
 ·show(t.node _ _ _ _ _ _ _ _).length<=64;omega
 ·have:(t.node kz z1 z2 S.row S.at_ S.last S.root ds).length=0:=by
   have o:t.node kz z1 z2 S.row S.at_ S.last S.root ds=[]:=e;rw[o];rfl
  omega
theorem zP {t:TreeV}(h:t.validE=0)(kz z1 z2:List Int)(total leaf:Nat)(ss:List Qd)(piece:List Int)(k:Nat):(t.pathR kz z1 z2 total leaf ss piece k).length<=64/\t.pathR kz z1 z2 total leaf ss piece k≠[]:=by
 cases k<;>exact qbx h ..
theorem qj0:(Tryz.prog.info? 37).map (fun i=>(i.zero,i.size,i.bytes))=some (some .nilFunc,1,8):=by kernel_rfl
def qfp (bt bp bl:Nat)(BI BG:Nat->Nat)(j:Nat):List Value:= .func (.func 94) #[] #[.pointer (some ⟨bt,0,none⟩),.pointer (some ⟨bp,0,none⟩),.pointer (some ⟨bl,0,none⟩)]::(List.range j).map fun i=> .func (.func 96) #[] #[.pointer (some ⟨bp,0,none⟩),.pointer (some ⟨BI i,0,none⟩),.pointer (some ⟨bt,0,none⟩),.pointer (some ⟨BG i,0,none⟩)]
theorem qhZ (q o G:Nat)(D r:Nat->Nat)(j x y:Nat):qfp q o G (fun i=>if i=j then x else D i) (fun i=>if i=j then y else r i) (j+1)=qfp q o G D r j++[.func (.func 96) #[] #[.pointer (some ⟨o,0,none⟩),.pointer (some ⟨x,0,none⟩),.pointer (some ⟨q,0,none⟩),.pointer (some ⟨y,0,none⟩)]]:=by
 unfold qfp;rw[List.range_succ,List.map_append,List.cons_append];congr 2
 ·refine List.map_congr_left fun i hi=>?_
  have:=List.mem_range.1 hi
  show Value.func _ _ #[_,.pointer (some ⟨if i=j then x else D i,0,none⟩),_,.pointer (some ⟨if i=j then y else r i,0,none⟩)]=_
  rw[if_neg (by omega),if_neg (by omega)]
 ·simp
def qas (t:TreeV)(total leaf j:Nat):Array Value:= #[.int .i64 ((qu t total leaf (j+1)).row:Nat),.int .u64 ((qu t total leaf (j+1)).at_:Nat),.int .u64 ((qu t total leaf (j+1)).frm:Nat),.int .u64 ((qu t total leaf (j+1)).to_:Nat),.bool (qu t total leaf (j+1)).last,.bool (qu t total leaf (j+1)).root,.int .u64 (chI t total leaf j)]
def Zi (t:TreeV)(kz z1 z2:List Int)(total leaf:Nat)(ss:List Qd)(piece:List Int)(b:Nat)(w:World)(v:Value)(e:Int):Prop:=
 (t.spotE total 0 leaf≠0/\e=t.spotE total 0 leaf/\v= .slice none 0 0)\/
 (t.spotE total 0 leaf=0/\ ¬((piece.length:Int)=((qu t total leaf 0).to_:Int) - ((qu t total leaf 0).frm:Int)/\zd t.i ((t.rowsOf total).length - 1) (chI t total leaf) (afI t total leaf) ss)/\e=4/\v= .slice none 0 0)\/
 (t.spotE total 0 leaf=0/\((piece.length:Int)=((qu t total leaf 0).to_:Int) - ((qu t total leaf 0).frm:Int)/\zd t.i ((t.rowsOf total).length - 1) (chI t total leaf) (afI t total leaf) ss)/\e=0/\OwnB b w v (t.pathR kz z1 z2 total leaf ss piece ((t.rowsOf total).length - 1)))
theorem zY {t:TreeV}(S:0<=t.l/\t.l<=4294967295)(h:t.spotE total 0 leaf=0):(qu t total leaf 0).frm<=(qu t total leaf 0).to_/\(qu t total leaf 0).to_<=total/\(qu t total leaf 0).frm=leaf*t.ln/\leaf<nth (t.rowsOf total) 0:=by
 have q:t.err total=0:=by
  by_cases I:t.err total=0
  ·exact I
  ·unfold TreeV.spotE at h;rw[if_pos I]at h;exact absurd h I
 have o:leaf<nth (t.rowsOf total) 0:=by
  unfold TreeV.spotE at h;rw[if_neg (by simp[q])]at h;by_cases G:t.there total 0 leaf
  ·exact G.2.2
  ·rw[if_neg G]at h;omega
 obtain⟨D,V,U,X⟩:=Qw S q;have r:=qG q;have O: ¬(1<=0/\nth (t.rowsOf total) 0=1):=by omega
 unfold qu Qg;by_cases J:leaf=nth (t.rowsOf total) 0 - 1
 ·rw[Ys O J];rw[r.first]at o;have:=qaD D o
  exact⟨by simpa using this,by simp,by simp,by rw[r.first];exact o⟩
 ·rw[YT O J];rw[r.first]at o J;have:=qaD (total:=total) (l:=t.ln) (k:=leaf+1) D (by omega)
  refine⟨?_,by simpa using this,by simp,by rw[r.first];exact o⟩;simp only[if_true];exact Nat.mul_le_mul_right _ (by omega)
theorem qiG (t:TreeV)(X:0<=t.l/\t.l<=4294967295)(total leaf:Nat)(Z:(total:Int)<=18446744073709551615)(S:t.spotE total 0 leaf≠0)(u v:Value)(w:World):
  Calls Tryz.prog 55 #[t.val,.agg #[.int .u64 total,.int .u64 leaf,u],v] w fun r w'=>r= .returned (.tuple #[.slice none 0 0,.int .i64 (t.spotE total 0 leaf)])/\Below w.heap.size w w':=by
 obtain⟨q,I⟩:=Ex w.heap.size;have Y:=hid (qbG t X total Z leaf S);have hq:(t.spotE total 0 leaf != 0)=true:=by rw[bne_iff_ne];exact S
 generalize t.spotE total 0 leaf=ev at*;clear S;unfold TreeV.val at*;go_enter Tryz.func55,Tryz.ntmps55
 go_upto_region 1 with(fail)
 refine qm ?_;intro o D;have U:o.heap[q]? =some (.cells t.c 26 (0,0)):=by rw[D];exact(Bh _ _ _ (by simp;omega)).trans (qe _ _ I.symm)
 have G:o.heap[q+1]? =some (.cells #[.int .u64 total,.int .u64 leaf,u] 55 (0,0)):=by rw[D];exact qe _ _ (by simp;omega)
 have J:Below q w o:=by rw[D,<-I];exact(Br.alloc Nl _).alloc (by simp) _
 have aa:q+1<o.heap.size:=(Ai G).1;have k0:o.cell? ⟨q+1,0,none⟩=some (.int .u64 total):=qd G 0;have k1:o.cell? ⟨q+1,1,none⟩=some (.int .u64 leaf):=qd G 1;clear D;go_wp2_with (refine L26 q rfl U ?_)
 refine(Y.out o).mono ?_;rintro e w2 ⟨rfl,O⟩;have V:=hid (J.trans (O.mono (by omega)));clear O J;go_wp2_with fail
 go_ret2
 exact⟨rfl,by rw[I];exact V.out⟩
theorem qjP (t:TreeV)(kz z1 z2 piece:List Int)(total leaf:Nat)(ht:(total:Int)<=18446744073709551615)(bm:(leaf:Int)<=18446744073709551615)(he:t.spotE total 0 leaf=0)(u pv:Value)(ss:List Qd)(w:World)(h:TreeOk t kz z1 z2 w)(hs:StepsAt w u ss)(ho:QX 1048576 ss)(hp:Hold w pv piece)(cC:piece.length<=1048576):
  Calls Tryz.prog 55 #[t.val,.agg #[.int .u64 total,.int .u64 leaf,u],pv] w fun r w'=> ∃v e,r= .returned (.tuple #[v,.int .i64 e])/\Zi t kz z1 z2 total leaf ss piece w.heap.size w' v e/\Below w.heap.size w w':=by
 obtain⟨D,S⟩:=Ex w.heap.size;obtain⟨i0,hi,bW,bU,bK⟩:=info_parts qj0;have F:=Yq h.l ht he;obtain⟨bq,cc,i1,i2,bI⟩:=YB h.l ht he;obtain⟨m,hm⟩:=Ex ((t.rowsOf total).length - 1);have cB:1<=m:=by have:=F.two;omega
 have cq:m<=255:=by have:=F.most;omega
 have bH:(t.rowsOf total).length=m+1:=by have:=F.two;omega
 have aH:=z8 t h.l total ht leaf he;rw[hm]at aH;have HW:=hid aH;have bA:=hid (qcg bq);rw[hm]at bA;have aV:=hid (fun(k:Nat) (hk:k<=m)=>qbQ h.l ht he (k:=k) (by rw[bH];omega));obtain⟨I,au⟩:=Ex (qu t total leaf 0);have ak:=aV.out 0 (by omega);have aa:(qu t total leaf 0).row=0/\(qu t total leaf 0).at_=leaf:=⟨(Y0 _ _ _ _ _ _).1,(Y0 _ _ _ _ _ _).2.1⟩;rw[au]at ak aa;have ad:=fun(W:World)=>zv t h.l total ht ((0:Nat):Int) leaf W
 rw[show t.spotR total ((0:Nat):Int) leaf=I by have:=ak.s;rw[aa.1,aa.2]at this;exact this,show t.spotE total ((0:Nat):Int) leaf=0 from he]at ad;unfold SpotV.val at ad;have aT:=hid ad;have bd:=zY h.l he;rw[au]at bd;have cl:(I.frm:Int)<=I.to_/\(I.to_:Int)<=18446744073709551615:=by omega
 obtain⟨cK,cJ⟩:=cl;have cT:IntKind.u64.wrap (piece.length:Int)=(piece.length:Int):=u64_wrap_id _ (by omega) (by omega);have cP:IntKind.u64.wrap ((I.to_:Int) - (I.frm:Int))=(I.to_:Int) - (I.frm:Int):=u64_wrap_id _ (by omega) (by omega);have ag:=hid (fun(W:World) (g aS:Nat) (h1:StepsAt W u ss) (az:StagesIs W g m (fun j=>((qu t total leaf (j+1)).row:Int)) (fun j=>((qu t total leaf (j+1)).at_:Int)) (fun j=>((qu t total leaf (j+1)).frm:Int)) (fun j=>((qu t total leaf (j+1)).to_:Int)) (chI t total leaf) (fun j=>(qu t total leaf (j+1)).last) (fun j=>(qu t total leaf (j+1)).root))=>qfq t total leaf u ss W h1 ho g aS m az.1 cq cB _ _ _ _ (chI t total leaf) (afI t total leaf) _ _ az.2 bA.out);have aE:Hid (∀(W:World) (v:Value) (e:Int),Zi t kz z1 z2 total leaf ss piece D W v e↔((t.spotE total 0 leaf≠0/\e=t.spotE total 0 leaf/\v= .slice none 0 0)\/(t.spotE total 0 leaf=0/\ ¬((piece.length:Int)=(I.to_:Int) - (I.frm:Int)/\zd t.i m (chI t total leaf) (afI t total leaf) ss)/\e=4/\v= .slice none 0 0)\/(t.spotE total 0 leaf=0/\((piece.length:Int)=(I.to_:Int) - (I.frm:Int)/\zd t.i m (chI t total leaf) (afI t total leaf) ss)/\e=0/\OwnB D W v (t.pathR kz z1 z2 total leaf ss piece m)))):=hid (fun W v e=>by unfold Zi;rw[au,hm]);have HE:=hid he;have cA:=hid h;have HS:=hid hs;have HO:=hid ho;have HP:=hid hp;obtain⟨pa,pc,rfl, -, -⟩:=id hp.slice;obtain⟨ua,uc,UU,VV,rfl,cQ, -⟩:=id hs;have cm:Hid (t.pathR kz z1 z2 total leaf ss piece 0=t.giveZ kz z1 z2 I piece):=hid (by unfold TreeV.pathR;rw[au]);have cp:=hid ak;have b6:=hid (⟨i1,i2⟩:1<=t.i/\t.i<=64);have bR:=hid bI;have cO:=hid aa;clear F bq cc i1 i2 bI hm bH aH ak aa ad bd he h hs ho hp au bm;unfold TreeV.val at*;go_enter Tryz.func55,Tryz.ntmps55
 go_upto_region 1 with(fail)
 refine qm ?_;intro wA aR;have bf:wA.heap[D]? =some (.cells t.c 26 (0,0)):=by rw[aR];exact(Bh _ _ _ (by simp;omega)).trans (qe _ _ S.symm)
 have ar:wA.heap[D+1]? =some (.cells #[.int .u64 total,.int .u64 leaf,.slice ua ss.length uc] 55 (0,0)):=by rw[aR];exact qe _ _ (by simp;omega)
 have bD:Below D w wA:=by rw[aR,<-S];exact(Br.alloc Nl _).alloc (by simp) _
 have cr:D+1<wA.heap.size:=(Ai ar).1;have k0:wA.cell? ⟨D+1,0,none⟩=some (.int .u64 total):=qd ar 0;have k1:wA.cell? ⟨D+1,1,none⟩=some (.int .u64 leaf):=qd ar 1;clear aR;go_wp2_with (refine L26 D rfl bf ?_)
 refine(HW.out wA).mono ?_;rintro e w2 ⟨g,aS,rfl,az,av⟩;clear k0 k1;have aK:=qf bf av;have aj:=qf ar av;have bJ:=hid (bD.trans (av.mono (by omega)));have bX:=hid az;have cu:D+1<w2.heap.size:=by have:=av.size;omega
 have k0:w2.cell? ⟨D+1,0,none⟩=some (.int .u64 total):=qd aj 0;have k1:w2.cell? ⟨D+1,1,none⟩=some (.int .u64 leaf):=qd aj 1;have bg:=hid aK;have a4:=hid aj;clear az av bD bf ar HW cr;clear wA;go_upto_region 4 with(fail)
 go_wp2_with (refine L26 D rfl aK ?_)
 refine(aT.out w2).mono ?_;rintro e w3 ⟨rfl,O⟩;have bj:=hid (qf bg.out O);have aW:=hid (qf a4.out O);have bF:=hid (bJ.out.trans (O.mono (by omega)));have a8:=hid (bX.out.below O);have ch:D+1<w3.heap.size:=by have:=O.size;omega
 clear O aK aj k0 k1 bg a4 bJ bX cu;go_upto_region 5 with((with_reducible show wpList _ _ _ (Oper.mk none (Op.store 96 _ _) _ _ _ _::_) _ _);refine wpList_store_row rfl 96 _ _ rfl w3.heap.size #[.int .i64 (I.row:Nat),.int .u64 (I.at_:Nat),.int .u64 (I.frm:Nat),.int .u64 (I.to_:Nat),.bool I.last,.bool I.root] rfl rfl 96 _ (Wn _ _) (by kernel_rfl) rfl (by simp[Value.oneCell']) ?_)
 refine qm ?_;intro V hV;obtain⟨b3,O⟩:=Ex w3.heap.size;have ay:V.heap[b3]? =some (.cells #[.int .i64 (I.row:Nat),.int .u64 (I.at_:Nat),.int .u64 (I.frm:Nat),.int .u64 (I.to_:Nat),.bool I.last,.bool I.root] 96 (0,0)):=by rw[hV,<-O];exact setRow_heap _ _ _ _ _ _ (Wn _ _)
 have ao:Below b3 w3 V:=by rw[hV,<-O];exact below_setRow (Br.alloc Nl _) Nl _
 have U:=hid ((ao.block D (by omega)).trans bj.out);have an:=hid ((ao.block (D+1) (by omega)).trans aW.out);have aN:=hid (bF.out.trans (ao.mono (by omega)));have aD:=hid (a8.out.below (O▸ao));have bs:=hid ay;rw[O];have aB:D+1<b3/\b3<V.heap.size:=by have:=(Ai ay).1;omega
 obtain⟨aB,cz⟩:=aB;have c2:V.cell? ⟨b3,2,none⟩=some (.int .u64 (I.frm:Nat)):=qd ay 2;have c3:V.cell? ⟨b3,3,none⟩=some (.int .u64 (I.to_:Nat)):=qd ay 3;have aI:D<V.heap.size/\D+1<V.heap.size:=by omega
 obtain⟨aI,b4⟩:=aI;clear hV ao ay O bj aW bF a8 ch aT;by_cases ab:(piece.length:Int)=(I.to_:Int) - (I.frm:Int)
 case neg=>
  have hq:((piece.length:Int) != (I.to_:Int) - (I.frm:Int))=true:=by rw[bne_iff_ne];exact ab
  have aJ:=hid ab;clear ab;go_wp2_with fail
  go_ret2
  exact⟨_,_,rfl,by rw[S];exact(aE.out _ _ _).2 (.inr (.inl ⟨HE.out,fun h=>aJ.out h.1,rfl,rfl⟩)),by rw[S];exact aN.out⟩
 have hq:((piece.length:Int) != (I.to_:Int) - (I.frm:Int))=false:=by rw[ab];simp
 have aJ:=hid ab;clear ab;have cF:V.cell? ⟨D,0,none⟩=some (.int .i64 t.k):=qd U.out 0;have cx:V.cell? ⟨D,1,none⟩=some (.int .i64 t.d):=qd U.out 1;have cw:V.cell? ⟨D,2,none⟩=some (.int .i64 t.f):=qd U.out 2;have cj:V.cell? ⟨D,3,none⟩=some (.int .i64 t.p):=qd U.out 3;have b9:V.cell? ⟨D,4,none⟩=some (.int .u32 t.l):=qd U.out 4;have cy:V.cell? ⟨D,5,none⟩=some (.int .i64 t.i):=qd U.out 5;have ca:V.cell? ⟨D,6,none⟩=some (.slice t.ka t.kl t.kc):=qd U.out 6;have co:V.cell? ⟨D,7,none⟩=some (.slice t.sa t.sl t.sc):=qd U.out 7;have ck:V.cell? ⟨D,8,none⟩=some (.slice t.pa t.pl t.pc):=qd U.out 8;have b8:V.cell? ⟨D+1,0,none⟩=some (.int .u64 total):=qd an.out 0;have cE:V.cell? ⟨D+1,1,none⟩=some (.int .u64 leaf):=qd an.out 1;have ct:V.cell? ⟨D+1,2,none⟩=some (.slice ua ss.length uc):=qd an.out 2;go_wp2_with fail
 refine(ag.out V g aS (HS.out.below (S▸aN.out)) aD.out).mono ?_;rintro e w5 ⟨bb,rfl,bV,ah⟩;have bt:=hid bV;have bh:=hid (qf U.out ah);have ba:=hid (qf an.out ah);have a3:=hid (qf bs.out ah);have aU:=hid (aN.out.trans (ah.mono (by omega)));have aF:=hid (aD.out.below ah);have ci:b3<w5.heap.size:=by have:=ah.size;omega
 clear bV ah U an bs aN aD c2 c3 cz aI b4 ag cF cx cw cj b9 cy ca co ck b8 cE ct;clear V
 cases bb
 case false=>
  go_wp2_with fail
  go_ret2
  exact⟨_,_,rfl,by rw[S];exact(aE.out _ _ _).2 (.inr (.inl ⟨HE.out,fun h=>absurd (bt.out.2 h.2) (by decide),rfl,rfl⟩)),by rw[S];exact aU.out⟩
 go_upto_region 8 with(fail)
 go_upto_region 9 with(at_builtin;refine QO rfl _ _ _ rfl w5.heap.size 37 (by decide) i0 .nilFunc 1 8 Tryz.underlying167 hi bW bU bK rfl (by decide) (.slice none 0 0) 0 [] [.func (.func 94) #[] #[.pointer (some ⟨D,0,none⟩),.pointer (some ⟨D+1,0,none⟩),.pointer (some ⟨b3,0,none⟩)]] _ rfl (Wo _ _ _ _) rfl rfl (by simp[Value.oneCell']) (by unfold maxLen;omega) (by omega) Nl ?_;intro v' w' ae J aG)
 have a7:=hid ae;have bS:Below w5.heap.size w5 w':=⟨J.os,J.tape,J.output,J.size,fun k hk=>J.block k hk⟩;have bG:=hid bS;have cU:(m:Int)<=255:=by omega
 have a9:g<w5.heap.size:=aF.out.1;clear ae J aG bS;go_wp2_with fail
 go_loopw [61,12] (fun i v wr=> ∃(j:Nat) (BI BG:Nat->Nat),i= .int .i64 j/\j<=m/\wr.ownsRow w5.heap.size 37 1 v (j+1) (qfp D (D+1) b3 BI BG j)/\(∀q,q<j->wr.heap[BI q]? =some (.cells #[.int .i64 q] 3 (0,0))/\wr.heap[BG q]? =some (.cells (qas t total leaf q) 131 (0,0)))/\Below w5.heap.size w5 wr) (fun i _ _=>m - (intOf i).toNat)
 case atStart=>exact⟨0,fun _=>0,fun _=>0,rfl,Nat.zero_le _,a7.out,fun q hq=>absurd hq (by omega),bG.out⟩
 case round=>
  clear a7 bG;obtain⟨j,BI,BG,rfl,hj,X,aM,G⟩:=hrel;by_cases aB:j<m
  case pos=>
   have b7:(j:Int)<(m:Int):=by omega
   obtain⟨s0,s1,s2,s3,s4,s5,s6⟩:=aF.out.2 j aB;have ac: ∀o,wr.cell? ⟨g,o,none⟩=w5.cell? ⟨g,o,none⟩:=fun o=>G.cell (p:=⟨g,o,none⟩) a9
   have z0:=(ac _).trans s0;have z1:=(ac _).trans s1;have z2:=(ac _).trans s2;have z3:=(ac _).trans s3;have z4:=(ac _).trans s4;have z5:=(ac _).trans s5;have z6:=(ac _).trans s6;have bZ:g<wr.heap.size:=by have:=G.size;omega
   obtain⟨va,vn,vc,rfl⟩:=qr X;obtain rfl:j+1=vn:=(yJ X).symm;have bo:=hid X;have aC:=hid aM;have HB:=hid G;have cn:w5.heap.size<=wr.heap.size:=G.size;clear s0 s1 s2 s3 s4 s5 s6 ac X aM G;go_upto_region 12 with((with_reducible show wpList _ _ _ (Oper.mk none (Op.store 131 _ _) _ _ _ _::_) _ _);refine wpList_store_row rfl 131 _ _ rfl (wr.heap.size+1) (qas t total leaf j) rfl rfl 131 _ (qe _ _ (by simp)) (by kernel_rfl) rfl (by simp[Value.oneCell',qas]) ?_)
   refine qm ?_;intro Y hY;obtain⟨bw,af⟩:=Ex wr.heap.size;have aX:Y.heap[bw+1]? =some (.cells (qas t total leaf j) 131 (0,0)):=by rw[hY,<-af];exact setRow_heap _ _ _ _ _ _ (qe _ _ (by simp))
   have bn:Y.heap[bw]? =some (.cells #[.int .i64 j] 3 (0,0)):=by rw[hY,<-af];exact((below_setRow (Br.alloc (by simp) _) (Nat.le_refl (wr.heap.size+1)) _).block wr.heap.size (by omega)).trans (Wn _ _)
   have am:Below bw wr Y:=by rw[hY,<-af];exact below_setRow ((Br.alloc Nl _).alloc (by simp) _) (by omega) _
   have aL:Y.ownsRow w5.heap.size 37 1 (.slice va (j+1) vc) (j+1) (qfp D (D+1) b3 BI BG j):=yN bo.out (fun g2 _ h2=>am.block g2 (by omega));have bP:=hid aL;have cv:=hid bn;have cb:=hid aX;have cN:bw+1<Y.heap.size:=(Ai aX).1;have cH:=hid (HB.out.trans (am.mono (by omega)));have a6:Hid (∀q,q<j->Y.heap[BI q]? =some (.cells #[.int .i64 q] 3 (0,0))/\Y.heap[BG q]? =some (.cells (qas t total leaf q) 131 (0,0))):=hid (fun q hq=>⟨qf (aC.out q hq).1 (af▸am),qf (aC.out q hq).2 (af▸am)⟩);rw[af];have cX:g<Y.heap.size:=by omega
   have cd:w5.heap.size<=Y.heap.size:=by omega
   clear hY aX bn am aL bo aC HB af z0 z1 z2 z3 z4 z5 z6 bZ cn;clear wr;go_wp2_with (at_builtin;refine QO rfl _ _ _ rfl w5.heap.size 37 (by decide) i0 .nilFunc 1 8 Tryz.underlying167 hi bW bU bK rfl (by decide) (.slice va (j+1) vc) (j+1) (qfp D (D+1) b3 BI BG j) [.func (.func 96) #[] #[.pointer (some ⟨D+1,0,none⟩),.pointer (some ⟨bw,0,none⟩),.pointer (some ⟨D,0,none⟩),.pointer (some ⟨bw+1,0,none⟩)]] _ rfl bP.out rfl rfl (by simp[Value.oneCell']) (by unfold maxLen;omega) (by omega) cd ?_;intro v' w' ae J aG)
   have ce:Below w5.heap.size Y w':=⟨J.os,J.tape,J.output,J.size,fun k hk=>J.block k hk⟩;have stay: ∀(p:Nat) (c:Array Value) (T:TypeId),T≠37->Y.heap[p]? =some (.cells c T (0,0))->w'.heap[p]? =some (.cells c T (0,0)):=fun p c T hT hp=>(aG.block p (Ai hp).1 (fun e=>qd0 bP.out hp hT e.symm)).trans hp
   refine⟨⟨j+1,fun i=>if i=j then bw else BI i,fun i=>if i=j then bw+1 else BG i,by go_num,by omega,by rw[qhZ];exact ae,fun q hq=>?_,cH.out.trans ce⟩,by simp[intOf]<;>omega⟩;by_cases bN:q=j
   ·subst bN;simp only[if_true];exact⟨stay _ _ _ (by decide) cv.out,stay _ _ _ (by decide) cb.out⟩
   ·simp only[if_neg bN];exact⟨stay _ _ _ (by decide) (a6.out q (by omega)).1,stay _ _ _ (by decide) (a6.out q (by omega)).2⟩
  obtain rfl:m=j:=by omega
  obtain⟨wm,rfl⟩: ∃wm,wm=wr:=⟨_,rfl⟩;obtain⟨gf,cf,rfl⟩:=ownsRow_form X (by omega);have bi: ∀i u,(qfp D (D+1) b3 BI BG m)[i]? =some u->wm.cell? ⟨gf,i,none⟩=some u:=by
   obtain⟨bx,e1,e2,e3, -⟩:=zm X;intro i u hi;rw[qd e1 i];have h8:(bx.toList.take (m+1))[i]? =some u:=by rw[e3];exact hi
   rw[List.getElem?_take]at h8;split at h8
   ·rw[<-Array.getElem?_toList];exact h8
   ·cases h8
  have br:gf<wm.heap.size:=by obtain⟨bx,e1, -⟩:=zm X;exact(Ai e1).1
  have cg:=hid (bi 0 _ rfl);have cG:Hid (∀k,k<m->wm.cell? ⟨gf,k+1,none⟩=some (.func (.func 96) #[] #[.pointer (some ⟨D+1,0,none⟩),.pointer (some ⟨BI k,0,none⟩),.pointer (some ⟨D,0,none⟩),.pointer (some ⟨BG k,0,none⟩)])):=hid (fun k hk=>bi (k+1) _ (by simp[qfp,hk]));have aC:=hid aM;have bk:=hid (qf bh.out G);have be:=hid (qf ba.out G);have b5:=hid (qf a3.out G);have aO:=hid (aU.out.trans (G.mono (by omega)));have cL:b3<wm.heap.size:=by have:=G.size;omega
  have ai:=bt.out.1 (by first|rfl|trivial);have bT:=hid (cA.out.below (S▸aO.out));have bE:=hid (HP.out.below (S▸aO.out));have cI:=HS.out.below (S▸aO.out);clear X bi G aM bh ba a3 aU aF a9 ci;obtain⟨a',cV,UU,VV,bL, -,bl⟩:=cI;simp only[Value.slice.injEq,true_and]at bL;obtain⟨rfl,rfl⟩:=bL;rcases bl with h8|⟨bu,ou,rfl,bC,bQ⟩
  ·have:=ai.1;rw[h8]at this;simp at this;omega
  have cD:=hid bQ;have ag:=hid ai;have aY:=hid ai.1;clear bQ ai;have bp: ∀q,(qeY t kz z1 z2 total leaf ss piece q).length<=1048576:=by
   intro q
   cases q with
   | zero=>exact cC
   | succ q=>have:=(zP bR.out kz z1 z2 total leaf ss piece q).1;show(t.pathR kz z1 z2 total leaf ss piece q).length<=_;omega
  have cM:=hid bp;have cS:m+1<=256:=by omega
  clear bp;go_wp2_with fail
  go_loopw [74,15] (fun i d W=> ∃q:Nat,i= .int .i64 q/\q<=m+1/\Hold W d (qeY t kz z1 z2 total leaf ss piece q)/\(1<=q->OwnB D W d (qeY t kz z1 z2 total leaf ss piece q))/\Below wm.heap.size wm W) (fun i _ _=>m+1 - (intOf i).toNat)
  case atStart=>exact⟨0,rfl,Nat.zero_le _,bE.out,fun h=>absurd h (by decide),Below.refl _ _⟩
  case round=>
   obtain⟨q,rfl,cW,hD,hO,G⟩:=hrel;clear bE;have cR:gf<wr.heap.size:=by have:=G.size;omega
   have HB:=hid (aO.out.trans (G.mono (by omega)));by_cases aB:q<m+1
   case pos=>
    have b7:(q:Int)<(m:Int)+1:=by omega
    by_cases aQ:q=0
    case pos=>
     have c0:wr.cell? ⟨gf,q,none⟩=some (.func (.func 94) #[] #[.pointer (some ⟨D,0,none⟩),.pointer (some ⟨D+1,0,none⟩),.pointer (some ⟨b3,0,none⟩)]):=by rw[aQ];exact(G.cell (p:=⟨gf,0,none⟩) br).trans cg.out
     have aq:=qf bk.out G;have aw:=qf be.out G;have bM:=qf b5.out G;have Z:=hD;rw[aQ]at Z;obtain⟨da,dc,rfl, -, -⟩:=id Z.slice;change Hold wr (.slice da piece.length dc) piece at Z
     have hG:=qiJ t kz z1 z2 piece total ht I D (D+1) b3 leaf _ da dc wr (bT.out.below G) cp.out Z (by omega) aq aw bM;have HG:=hid hG;have HQ:=hid aQ;have a5:D<=wr.heap.size:=by have:=G.size;omega
     clear hD hO aq aw bM Z hG aQ;have ax:=hid G;clear G;go_wp2_with fail
     refine HG.out.mono ?_;rintro e w9 ⟨x,rfl,hx,ap⟩;have HX:=hid hx;have aZ:=hid ap;clear hx ap;go_wp2_with fail
     have aA:qeY t kz z1 z2 total leaf ss piece (q+1)=t.giveZ kz z1 z2 I piece:=by rw[HQ.out];exact cm.out
     exact⟨⟨q+1,by go_num,by omega,by rw[aA];exact HX.out.hold,fun _=>by rw[aA];exact HX.out.le a5,ax.out.trans (aZ.out.mono (show wm.heap.size<=wr.heap.size from ax.out.size))⟩,by simp[intOf]<;>omega⟩
    case neg=>
     obtain⟨k,hk⟩: ∃k,q=k+1:=⟨q - 1,by omega⟩;have bc:k<m:=by omega
     have c0:wr.cell? ⟨gf,q,none⟩=some (.func (.func 96) #[] #[.pointer (some ⟨D+1,0,none⟩),.pointer (some ⟨BI k,0,none⟩),.pointer (some ⟨D,0,none⟩),.pointer (some ⟨BG k,0,none⟩)]):=by rw[hk];exact(G.cell (p:=⟨gf,k+1,none⟩) br).trans (cG.out k bc)
     have aq:=qf bk.out G;have aw:=qf be.out G;obtain⟨aP,al⟩:=aC.out k bc;have aP:=qf aP G;have al:=qf al G;unfold qas at al;obtain⟨bO,bz,bY,bv⟩:=cD.out k (by have:=aY.out;omega);have Z:=hD;rw[hk]at Z;obtain⟨da,dc,rfl, -, -⟩:=id Z.slice;change Hold wr (.slice da (t.pathR kz z1 z2 total leaf ss piece k).length dc) (t.pathR kz z1 z2 total leaf ss piece k)at Z
     have hl:=zP bR.out kz z1 z2 total leaf ss piece k;have hG:=qiI t kz z1 z2 (t.pathR kz z1 z2 total leaf ss piece k) total ht (qu t total leaf (k+1)) _ (qy ss k) D (D+1) (BI k) (BG k) bu ou k ss.length uc leaf (UU k) (VV k) (.slice da (t.pathR kz z1 z2 total leaf ss piece k).length dc) wr (bT.out.below G) (aV.out (k+1) (by omega)) Z hl.2 hl.1 b6.out aq aw aP al (by have:=aY.out;omega) ((G.cell (p:=⟨bu,ou+k*2,none⟩) bC).trans bO) ((G.cell (p:=⟨bu,ou+k*2+1,none⟩) bC).trans bz) (by have:=G.size;omega) (bY.below G) (bv.below G) (HO.out.2 _ (ZL (by have:=aY.out;omega))) (ag.out.2 k bc).2.2;have HG:=hid hG;have a5:D<=wr.heap.size:=by have:=G.size;omega
     have HK:=hid hk;clear hD hO aq aw aP al bO bz bY bv hl Z hG hk;have ax:=hid G;clear G;go_wp2_with fail
     refine HG.out.mono ?_;rintro e w9 ⟨x,rfl,hx,ap⟩;have HX:=hid hx;have aZ:=hid ap;clear hx ap;go_wp2_with fail
     have aA:qeY t kz z1 z2 total leaf ss piece (q+1)=t.giveZ kz z1 z2 (qu t total leaf (k+1)) (JL (qy ss k) (t.pathR kz z1 z2 total leaf ss piece k)):=by rw[HK.out];rfl
     exact⟨⟨q+1,by go_num,by omega,by rw[aA];exact HX.out.hold,fun _=>by rw[aA];exact HX.out.le a5,ax.out.trans (aZ.out.mono (show wm.heap.size<=wr.heap.size from ax.out.size))⟩,by simp[intOf]<;>omega⟩
   obtain rfl:q=m+1:=by omega
   have HX:=hid (hO (by omega));clear hD hO G;go_wp2_with fail
   go_ret2
   exact⟨_,_,rfl,by rw[S];exact(aE.out _ _ _).2 (.inr (.inr ⟨HE.out,⟨aJ.out,ag.out⟩,rfl,HX.out⟩)),by rw[S];exact HB.out⟩
