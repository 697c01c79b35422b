/- What a node on a leaf's way gives, by the program: path.give. No condition. -/
import Derived.Test.YthjoojnlnlmljaaGreatP01
import Derived.Test.YthjoojnlnlmljaaGreatB38
import Derived.Test.YthjoojnlnlmljaaGreatB11
import Derived.Deep.DeepCutAuto
import Derived.Test.YthjoojnlnlmljaaGreatB42
set_option linter.all false
set_option maxRecDepth 100000
set_option maxHeartbeats 8000000
namespace Go.Proofs.YthjoojnlnlmljaaGreat
open Go.ChangeShapes Go.WideShapes Go.ChangeAt Go.RowKit Go.Joins Go.Shelf Go.Maps
open Go.Lib (hid)
attribute [local go_sem] Oper.semAt_some
theorem qd6 {t:TreeV}(h:t.validE=0)(U:0≤t.l∧t.l≤4294967295){row at_:Nat}(D:row≤255)(G:at_<18446744073709551616)(q:t.k=2→at_<281474976710656):ParOk t.big (t.vN row at_):=by
 obtain⟨I,V,Z,h4,X,Y,h7,J,S,r, -, -⟩:=qn h;obtain⟨O, -⟩:=yx h;have o:t.big=false→at_<281474976710656:=fun e=>q (by
  have:t.k≠1:=of_decide_eq_false e
  omega)
 refine⟨⟨?_,?_,?_,?_,⟨?_,fun e=>?_⟩,?_,?_⟩,?_,?_,rfl⟩
 case refine_6=>have:=o e;simp only[TreeV.vN,if_true,if_false,Nat.reduceEqDiff];omega
 all_goals simp only[TreeV.vN,if_true,if_false,Nat.reduceEqDiff]
 all_goals omega
theorem qbG {f p total l:Nat}{L:List Nat}(h:RowsIs f p (lvs total l) L): ∀k,k<L.length→nth L k≤lvs total l
 | 0,_=>Nat.le_of_eq h.first
 | k+1,hk=>by
  have q:=qbG h k (by omega);have r:1≤lvs total l:=by unfold lvs;omega
  by_cases o:nth L (k+1)=1
  ·omega
  ·obtain⟨e,D⟩:=h.next_or hk o;rw[e];exact Nat.le_trans (Yq (by omega)) q
theorem qd5 {t:TreeV}(I:0≤t.l∧t.l≤4294967295){total row at_:Nat}(X:(total:Int)≤18446744073709551615)(o:t.err total=0)(O:row<(t.rowsOf total).length)(ha:at_<nth (t.rowsOf total) row):ParOk t.big (t.vN row at_)∧row≤255:=by
 obtain⟨J,aa,Y,r⟩:=Qu I o;have D:=qF o;have q:=qn r;have S:=D.most;have Z:(t.pn:Int)≤255:=by have:=q.2.2.2.2.2.2.1;have:=q.2.2.2.2.2.2.2.1;unfold TreeV.pn;omega
 have h3:=Y9 J X D row O;have G:row≤255:=by omega
 refine⟨qd6 r I G (by omega) (fun e=>?_),G⟩;have V:=qbG D row O;have h5:qP total t.ln≤281474976710656:=by
  by_cases U:281474976710656<qP total t.ln
  ·unfold TreeV.err at o;rw[if_neg (by simp[r]),if_pos ⟨e,U⟩]at o;omega
  ·omega
 unfold lvs at V;omega
theorem qe6 (big:Bool)(v:Nat→Nat)(z1 z2:List Int)(G D:Value)(b:Nat)(w:World)(S:ParOk big v)(O:SideIs b w z1 G)(U:SideIs b w z2 D)(I: ∀a∈z1,0≤a∧a≤255)(J: ∀a∈z2,0≤a∧a≤255)(o:z1.length≤sB big)(q:z2.length≤sB big):
  Calls Tryz.prog 100 #[.int .i64 (kB big),parN v G D] w fun e w'=>(∃r,e= .returned (.tuple #[r,.int .i64 0])∧w'.ownsRow w.heap.size 5 1 r (mB big) ((QT big v z1 z2).map qo))∧Below w.heap.size w w':=by
 obtain⟨y1,k1,m1,X⟩:=JJ O I;obtain⟨Y,k2,Z,V⟩:=JJ U J;rw[←qdg o q X V];exact qdb big v y1 Y G D w S k1 k2 (Nat.le_trans m1 o) (Nat.le_trans Z q)
theorem TreeOk.okD2 {t:TreeV}{kz z1 z2:List Int}{w:World}(h:TreeOk t kz z1 z2 w){row at_:Nat}(r:ParOk t.big (t.vN row at_)):
  Go.Proofs.YthjoojnlnlmljaaGreat.okD t.big false (t.blk z1 z2 row at_)∧YC (t.blk z1 z2 row at_) (Y6 row kz)=false∧(∀z∈t.blk z1 z2 row at_,0≤z∧z≤255)∧ ∀rt:Bool,1≤t.outN rt∧t.outN rt≤(mB t.big:Nat):=by
 have o:=qn h.v;have I:=yx h.v;have S:=YU h.s;have J:=YU h.p;have U:=YU h.k;obtain⟨q,D⟩:=qgN (z1:=z1) (z2:=z2) r (by omega) (by omega);refine⟨q,?_,Zn h.s.1 h.p.1,fun rt=>?_⟩
 ·have G:qp (t.blk z1 z2 row at_) 1=(t.kl:Int):=D;unfold YC Y6;rw[G];refine decide_eq_false ?_;split
  ·omega
  ·simp
 ·obtain⟨-,d1,d2,V,O, -⟩:=o
  cases rt
  ·show 1≤t.i∧t.i≤_;omega
  ·show 1≤t.d∧t.d≤_;omega
theorem qiw {t:TreeV}{kz z1 z2:List Int}{w:World}(h:TreeOk t kz z1 z2 w){row at_:Nat}(G:ParOk t.big (t.vN row at_))(la rt:Bool)(ds:List Int)(o r q:Value)(W:World)(b:Nat)
  (J:W.ownsRow b 5 1 r (mB t.big) ((t.blk z1 z2 row at_).map qo)) (U:Hold W q (Y6 row kz)) (V:Hold W o ds) (Z:ds.length≤1073741824):
  Calls Tryz.prog 60 #[.agg (yX t.k r q la (t.outN rt) o)] W fun e w'=> ∃u,e= .returned (.tuple #[u,.int .i64 0])∧OwnB W.heap.size w' u (t.node kz z1 z2 row at_ la rt ds)∧Below W.heap.size W w':=by
 obtain⟨D,I,X,Y⟩:=h.okD2 G;rw[←Yr h.v];refine(JR t.big _ _ ds la _ r q o W (Qi J X) U V (by omega) D I (Y rt)).mono ?_;rintro e w' ⟨⟨u,rfl,O⟩,S⟩
 exact⟨u,rfl,⟨yY t kz z1 z2 row at_ la rt ds,O⟩,S⟩
theorem qjF (t:TreeV)(kz z1 z2 ds:List Int)(total:Nat)(ht:(total:Int)≤18446744073709551615)(row at_ q2 q3:Nat)(G O:Bool)(da:Option Addr)(dc:Nat)(w:World)(h:TreeOk t kz z1 z2 w)(hP:ParOk t.big (t.vN row at_))(hr:row≤255)
  (aH:t.spotE total (row:Nat) at_=0) (aR:t.spotR total (row:Nat) at_=⟨row,at_,q2,q3,G,O⟩) (hd:Hold w (.slice da ds.length dc) ds) (aN:ds.length≤1073741824):
  Calls Tryz.prog 124 #[t.val,.int .u64 total,.agg #[.int .i64 row,.int .u64 at_,.int .u64 q2,.int .u64 q3,.bool G,.bool O],.slice da ds.length dc] w fun e w'=> ∃u,e= .returned u∧OwnB w.heap.size w' u (t.node kz z1 z2 row at_ G O ds)∧Below w.heap.size w w':=by
 obtain⟨o,D⟩:=Ex w.heap.size;have e1:=YU h.s;have e2:=YU h.p;have e3:=YU h.k;have be:=qn h.v;have bd:=yx h.v;have a3:sB t.big≤16:=by cases t.big<;>decide
 have X:=fun(W:World)=>zl t h.l total ht (row:Nat) at_ W
 rw[aR,aH]at X;unfold SpotV.val at X;simp only at X
 have aQ:=hid X;have aJ:=hid (fun(W:World) (hb:Below o w W)=>qho t total (row:Nat) at_ aQ W (hid (h.s.below (D▸hb)).holds8) (hid (h.p.below (D▸hb)).holds8) (hid h.s.1) (hid h.p.1) (hid (by omega)) (hid (by omega)));have ay:=fun(W:World) (b:Nat) (s p:Value) (a7:SideIs b W z1 s) (ar:SideIs b W z2 p)=>qe6 t.big (t.vN row at_) z1 z2 s p b W hP a7 ar h.s.1 h.p.1 (by omega) (by omega)
 simp only[TreeV.parN h.v h.l,Yr h.v]at ay;have aU:=hid ay;have aI:=hid (fun(W:World) (hb:Below o w W) (bv kv:Value) (B:Nat) (ho:W.ownsRow B 5 1 bv (mB t.big) ((QT t.big (t.vN row at_) z1 z2).map qo)) (hk:Hold W kv (Y6 row kz))=>qiw (h.below (D▸hb)) hP G O ds (.slice da ds.length dc) bv kv W B ho hk (hd.below (D▸hb)) aN);have a8:=hid h.k;clear be bd X ay aH aR hP hd aN a3 e1 e2 e3 h;unfold TreeV.val qan at*;go_enter Tryz.func124,Tryz.ntmps124
 go_upto_region 1 with(fail)
 refine qm ?_;intro wA aj;have aw:wA.heap[o]? =some (.cells t.c 26 (0,0)):=by rw[aj];exact(Bh _ _ _ (by simp;omega)).trans (qe _ _ D.symm)
 have ab:wA.heap[o+1]? =some (.cells #[.int .i64 row,.int .u64 at_,.int .u64 q2,.int .u64 q3,.bool G,.bool O] 96 (0,0)):=by rw[aj];exact qe _ _ (by simp;omega)
 have av:Below o w wA:=by rw[aj,←D];exact(Br.alloc Nl _).alloc (by simp) _
 have bg:o+1<wA.heap.size:=(Ai ab).1;clear aj;have k0:wA.cell? ⟨o+1,0,none⟩=some (.int .i64 row):=qd ab 0;have k1:wA.cell? ⟨o+1,1,none⟩=some (.int .u64 at_):=qd ab 1;go_wp2_with (refine L26 o rfl aw ?_)
 refine(aJ.out wA av).mono ?_;rintro e w2 ⟨sv,pv,rfl,ao,am,ae⟩;have aS:=hid (qf aw ae);have aV:=hid (qf ab ae);have aF:=hid (av.trans (ae.mono (by omega)));have ar:=ae.size;have aO:=hid ao;have aT:=hid am;obtain⟨aA,aB,au,rfl⟩: ∃a n c,sv= .slice a n c:=by
  rcases ao with⟨rfl, -⟩|⟨-,ho⟩
  ·exact⟨_,_,_,rfl⟩
  ·exact qs ho
 obtain⟨ax,aC,aD,rfl⟩: ∃a n c,pv= .slice a n c:=by
  rcases am with⟨rfl, -⟩|⟨-,ho⟩
  ·exact⟨_,_,_,rfl⟩
  ·exact qs ho
 clear ao am ae aw ab av k0 k1 aJ aQ;go_upto_region 2 with((with_reducible show wpList _ _ _ (Oper.mk none (Op.store 171 _ _) _ _ _ _::_) _ _);refine wpList_store_row rfl 171 _ _ rfl w2.heap.size #[.int .i64 t.d,.int .i64 (t.kl:Nat),.int .i64 t.f,.int .i64 t.p,.int .u32 t.l,.int .u64 at_,.int .u32 0,.int .i64 row,.int .i64 t.i,.slice aA aB au,.slice ax aC aD] rfl rfl 171 _ (Wn _ _) (by kernel_rfl) rfl (by simp[Value.oneCell']) ?_)
 refine qm ?_;intro V hV;obtain⟨b3,Y⟩:=Ex w2.heap.size;have al:V.heap[b3]? =some (.cells #[.int .i64 t.d,.int .i64 (t.kl:Nat),.int .i64 t.f,.int .i64 t.p,.int .u32 t.l,.int .u64 at_,.int .u32 0,.int .i64 row,.int .i64 t.i,.slice aA aB au,.slice ax aC aD] 171 (0,0)):=by rw[hV,←Y];exact setRow_heap _ _ _ _ _ _ (Wn _ _)
 have Z:Below b3 w2 V:=by rw[hV,←Y];exact below_setRow (Br.alloc Nl _) Nl _
 have aL:=hid (show Below o w V from aF.out.trans (Z.mono (by omega)));have ah:=hid ((Z.block o (by omega)).trans aS.out);have aq:=hid ((Z.block (o+1) (by omega)).trans aV.out);have aM:=hid (aU.out V wA.heap.size (.slice aA aB au) (.slice ax aC aD) (ZH aO.out (Y▸Z)) (ZH aT.out (Y▸Z)));have a9:b3<V.heap.size:=(Ai al).1;have aX:o+1<V.heap.size:=by omega
 have aY:o<V.heap.size:=by omega
 rw[Y];have c0:V.cell? ⟨o,0,none⟩=some (.int .i64 t.k):=qd ah.out 0;clear hV Z aF aS aV Y aU aO aT;go_wp2_with (refine L171 b3 rfl al ?_)
 refine aM.out.mono ?_;rintro e w4 ⟨⟨bv,rfl,az⟩,r⟩;obtain⟨a5,n5,k5,rfl⟩:=qs az;have aa:=qf ah.out r;have ag:=qf aq.out r;have ap:=hid aa;have an:=hid ag;have ba:=r.size;have aK:=hid az;have aG:=hid (show Below o w w4 from aL.out.trans (r.mono (by omega)));have c0:w4.cell? ⟨o,0,none⟩=some (.int .i64 t.k):=qd aa 0;have c5:w4.cell? ⟨o,5,none⟩=some (.int .i64 t.i):=qd aa 5;have d4:w4.cell? ⟨o+1,4,none⟩=some (.bool G):=qd ag 4;have aZ:o+1<w4.heap.size∧o<w4.heap.size:=by omega
 clear r az aa ag al aM aL ah aq a9;go_upto_region 4 with((with_reducible show wpList _ _ _ (Oper.mk none (Op.store 73 _ _) _ _ _ _::_) _ _);refine wpList_store_row rfl 73 _ _ rfl w4.heap.size #[.int .i64 t.k,.slice a5 n5 k5,.slice none 0 0,.bool G,.int .i64 t.i,.slice da ds.length dc] rfl rfl 73 _ (Wn _ _) (by kernel_rfl) rfl (by simp[Value.oneCell']) ?_)
 refine qm ?_;intro U hU;obtain⟨q,r⟩:=Ex w4.heap.size;have aP:U.heap[q]? =some (.cells #[.int .i64 t.k,.slice a5 n5 k5,.slice none 0 0,.bool G,.int .i64 t.i,.slice da ds.length dc] 73 (0,0)):=by rw[hU,←r];exact setRow_heap _ _ _ _ _ _ (Wn _ _)
 have ad:Below q w4 U:=by rw[hU,←r];exact below_setRow (Br.alloc Nl _) Nl _
 rw[r];have I:=hid (show U.heap[q]? =some (.cells #[.int .i64 t.k,.slice a5 n5 k5,.slice none 0 0,.bool G,.int .i64 t.i,.slice da ds.length dc] 73 (0,0))∧U.heap[o]? =some (.cells t.c 26 (0,0))∧U.heap[o+1]? =some (.cells #[.int .i64 row,.int .u64 at_,.int .u64 q2,.int .u64 q3,.bool G,.bool O] 96 (0,0))∧Below o w U∧U.ownsRow o 5 1 (.slice a5 n5 k5) (mB t.big) ((QT t.big (t.vN row at_) z1 z2).map qo) from⟨aP,(ad.block o (by omega)).trans ap.out,(ad.block (o+1) (by omega)).trans an.out,aG.out.trans (ad.mono (by omega)),ownsRow_le (qi aK.out (fun g _ g2=>ad.block g (by omega))) (by omega)⟩);have bi:o+1<q:=by omega
 clear hU r aP ad ap an aG aK c0 c5 d4 aZ ba aX aY ar bg;have d5:U.cell? ⟨o+1,5,none⟩=some (.bool O):=qd I.out.2.2.1 5;have S:q<U.heap.size∧o<U.heap.size∧o+1<U.heap.size:=by have:=(Ai I.out.1).1;omega
 obtain⟨S,af,ai⟩:=S;have c1:U.cell? ⟨o,1,none⟩=some (.int .i64 t.d):=qd I.out.2.1 1;have c4:U.cell? ⟨q,4,none⟩=some (.int .i64 t.i):=qd I.out.1 4;have f4:=frozen_of_row U q 4 _ _ I.out.1;go_upto_if 43 with(fail)
 go_cut [13] (fun u W=>u= .pointer (some ⟨q,0,none⟩)∧W.heap[q]? =some (.cells #[.int .i64 t.k,.slice a5 n5 k5,.slice none 0 0,.bool G,.int .i64 (t.outN O),.slice da ds.length dc] 73 (0,0))∧W.heap[o]? =some (.cells t.c 26 (0,0))∧W.heap[o+1]? =some (.cells #[.int .i64 row,.int .u64 at_,.int .u64 q2,.int .u64 q3,.bool G,.bool O] 96 (0,0))∧Below o w W∧W.ownsRow o 5 1 (.slice a5 n5 k5) (mB t.big) ((QT t.big (t.vN row at_) z1 z2).map qo))
 case first=>
  cases O
  ·go_wp2_with fail
   go_meet
   case rel=>exact⟨rfl,I.out⟩
  ·go_wp2_with fail
   go_meet
   case rel=>
    obtain⟨r1,r2,r3,r4,r5⟩:=I.out;exact⟨rfl,heap_setCell_same U q 4 _ _ (.int .i64 t.d) r1,(heap_setCell_other U ⟨q,4,none⟩ o (.int .i64 t.d) (show o≠q by omega)).trans r2,(heap_setCell_other U ⟨q,4,none⟩ (o+1) (.int .i64 t.d) (show o+1≠q by omega)).trans r3,r4.setCell (show o≤q by omega) _,Qk r5 r1 4 (.int .i64 t.d) (by decide)⟩
 case rest=>
  obtain⟨rfl,aW⟩:=hcut;have J:=hid aW;clear aW I d5 S af ai c1 c4 f4;clear U;have S:q<wc.heap.size∧o<wc.heap.size∧o+1<wc.heap.size:=by have:=(Ai J.out.1).1;omega
  obtain⟨S,af,ai⟩:=S;have d0:wc.cell? ⟨o+1,0,none⟩=some (.int .i64 row):=qd J.out.2.2.1 0;have c6:wc.cell? ⟨o,6,none⟩=some (.slice t.ka t.kl t.kc):=qd J.out.2.1 6;have c2:wc.cell? ⟨q,2,none⟩=some (.slice none 0 0):=qd J.out.1 2;have f2:=frozen_of_row wc q 2 _ _ J.out.1;obtain⟨U,rfl⟩: ∃U,U=wc:=⟨_,rfl⟩;go_upto_if 49 with(fail)
  go_cut [13] (fun u W=>u= .pointer (some ⟨q,0,none⟩)∧ ∃a6 n6 c6,Hold W (.slice a6 n6 c6) (Y6 row kz)∧W.heap[q]? =some (.cells #[.int .i64 t.k,.slice a5 n5 k5,.slice a6 n6 c6,.bool G,.int .i64 (t.outN O),.slice da ds.length dc] 73 (0,0))∧W.heap[o]? =some (.cells t.c 26 (0,0))∧W.heap[o+1]? =some (.cells #[.int .i64 row,.int .u64 at_,.int .u64 q2,.int .u64 q3,.bool G,.bool O] 96 (0,0))∧Below o w W∧W.ownsRow o 5 1 (.slice a5 n5 k5) (mB t.big) ((QT t.big (t.vN row at_) z1 z2).map qo))
  case first=>
   by_cases ak:row=0
   ·have hq:(row:Int)=0:=by omega
    go_wp2_with fail
    go_meet
    case rel=>
     obtain⟨r1,r2,r3,r4,r5⟩:=J.out;have ac:Below o w (U.setCell ⟨q,2,none⟩ (.slice t.ka t.kl t.kc)):=r4.setCell (show o≤q by omega) _;exact⟨rfl,_,_,_,(by unfold Y6;rw[if_pos ak];exact a8.out.below (D▸ac)),heap_setCell_same U q 2 _ _ _ r1,(heap_setCell_other U ⟨q,2,none⟩ o _ (show o≠q by omega)).trans r2,(heap_setCell_other U ⟨q,2,none⟩ (o+1) _ (show o+1≠q by omega)).trans r3,ac,Qk r5 r1 2 _ (by decide)⟩
   ·have hq: ¬((row:Int)=0):=by omega
    go_wp2_with fail
    go_meet
    case rel=>exact⟨rfl,none,0,0,(by unfold Y6;rw[if_neg ak];exact Hold.nil _),J.out⟩
  case rest=>
   obtain⟨rfl,a6,n6,bc,hk,r1,r2,r3,r4,r5⟩:=hcut;have bf:=hid r1;have aE:=hid (aI.out wc r4 (.slice a5 n5 k5) (.slice a6 n6 bc) o r5 hk);have bb:=hid r4;have bh:q<wc.heap.size:=(Ai r1).1;clear hk r1 r2 r3 r4 r5 J aI d0 c6 c2 f2 S af ai;go_wp2_with (refine L73 q rfl bf.out ?_)
   refine aE.out.mono ?_;rintro e w9 ⟨u,rfl,hu,ac⟩;have HU:=hid (hu.le (show o≤wc.heap.size by omega));have a4:=hid (bb.out.trans (ac.mono (show o≤wc.heap.size by omega)));clear hu ac;go_wp2_with fail
   go_ret
   exact⟨_,rfl,by rw[D];exact HU.out,by rw[D];exact a4.out⟩
structure SpotOk (t:TreeV)(total:Nat)(S:SpotV):Prop where
 p:ParOk t.big (t.vN S.row S.at_)
 r:S.row≤255
 e:t.spotE total (S.row:Nat) S.at_=0
 s:t.spotR total (S.row:Nat) S.at_=S
def TreeV.giveZ (t:TreeV)(kz z1 z2:List Int)(S:SpotV)(ds:List Int):List Int:=t.node kz z1 z2 S.row S.at_ S.last S.root ds
theorem qe0 (t:TreeV)(kz z1 z2 ds:List Int)(total:Nat)(J:(total:Int)≤18446744073709551615)(S:SpotV)(D:Option Addr)(q:Nat)(w:World)(h:TreeOk t kz z1 z2 w)(o:SpotOk t total S)(I:Hold w (.slice D ds.length q) ds)(G:ds.length≤1073741824):
  Calls Tryz.prog 124 #[t.val,.int .u64 total,.agg #[.int .i64 (S.row:Nat),.int .u64 (S.at_:Nat),.int .u64 (S.frm:Nat),.int .u64 (S.to_:Nat),.bool S.last,.bool S.root],.slice D ds.length q] w fun e w'=> ∃u,e= .returned u∧OwnB w.heap.size w' u (t.giveZ kz z1 z2 S ds)∧Below w.heap.size w w':=
 qjF t kz z1 z2 ds total J S.row S.at_ S.frm S.to_ S.last S.root D q w h o.p o.r o.e o.s I G
theorem qim (t:TreeV)(kz z1 z2 ds:List Int)(total:Nat)(Y:(total:Int)≤18446744073709551615)(S:SpotV)(I G r:Nat)(leaf:Nat)(u:Value)(D:Option Addr)(J:Nat)(w:World)(h:TreeOk t kz z1 z2 w)(U:SpotOk t total S)(V:Hold w (.slice D ds.length J) ds)(q:ds.length≤1073741824)
  (hT:w.heap[I]? =some (.cells t.c 26 (0,0))) (Z:w.heap[G]? =some (.cells #[.int .u64 total,.int .u64 leaf,u] 55 (0,0))) (hs:w.heap[r]? =some (.cells #[.int .i64 (S.row:Nat),.int .u64 (S.at_:Nat),.int .u64 (S.frm:Nat),.int .u64 (S.to_:Nat),.bool S.last,.bool S.root] 96 (0,0))):
  Calls Tryz.prog 123 #[.slice D ds.length J,.pointer (some ⟨I,0,none⟩),.pointer (some ⟨G,0,none⟩),.pointer (some ⟨r,0,none⟩)] w fun e w'=> ∃u,e= .returned u∧OwnB w.heap.size w' u (t.giveZ kz z1 z2 S ds)∧Below w.heap.size w w':=by
 have X:=hid (qe0 t kz z1 z2 ds total Y S D J w h U V q);have c0:w.cell? ⟨G,0,none⟩=some (.int .u64 total):=qd Z 0;have aa:=(Ai Z).1;clear h U V q Y;unfold TreeV.val at X;go_enter Tryz.func123,Tryz.ntmps123
 go_wp2_with (first|(refine L26 I rfl hT ?_)|(refine L96 r rfl hs ?_))
 refine X.out.mono ?_;rintro e w2 ⟨x,rfl,O,o⟩;have HX:=hid O;have HB:=hid o;clear O o;go_wp2_with fail
 go_ret
 exact⟨_,rfl,HX.out,HB.out⟩
def qf5 (st:Qh)(D:List Int):List Int:=Qb st.1 st.1.length++D++Qb st.2 st.2.length
theorem qdv {m:Nat}{ds:List (List Int)}(h: ∀d∈ds,d.length≤m): ∀k,k≤ds.length→(Qb ds k).length≤k*m
 | 0,_=>Nat.zero_le _
 | k+1,hk=>by
  have o:=qdv h k (by omega);have q:=h _ (yQ (k:=k) (by omega));simp only[Qb,List.length_append,Nat.add_mul,Nat.one_mul];omega
theorem qil (t:TreeV)(kz z1 z2 D:List Int)(total:Nat)(ht:(total:Int)≤18446744073709551615)(S:SpotV)(ch:Value)(r:Qh)(bt bp bi bg bu ou k n uc leaf:Nat)(U V da:Value)(w:World)(h:TreeOk t kz z1 z2 w)(hS:SpotOk t total S)(hd:Hold w da D)(a9:D≠[])(bh:D.length≤64)(bl:1≤t.i∧t.i≤64)
  (hT:w.heap[bt]? =some (.cells t.c 26 (0,0))) (hp:w.heap[bp]? =some (.cells #[.int .u64 total,.int .u64 leaf,.slice (some ⟨bu,ou,none⟩) n uc] 55 (0,0))) (hi:w.heap[bi]? =some (.cells #[.int .i64 k] 3 (0,0))) (hg:w.heap[bg]? =some (.cells #[.int .i64 (S.row:Nat),.int .u64 (S.at_:Nat),.int .u64 (S.frm:Nat),.int .u64 (S.to_:Nat),.bool S.last,.bool S.root,ch] 127 (0,0)))
  (hk:k<n) (hU:w.cell? ⟨bu,ou+k*2,none⟩=some U) (hV:w.cell? ⟨bu,ou+k*2+1,none⟩=some V) (aV:bu<w.heap.size) (al:pRowsAt w U r.1) (ax:pRowsAt w V r.2) (ag:qg1 1048576 r.1∧qg1 1048576 r.2) (ai: ∀d∈r.1++r.2,(d.length:Int)=t.i):
  Calls Tryz.prog 125 #[da,.pointer (some ⟨bp,0,none⟩),.pointer (some ⟨bi,0,none⟩),.pointer (some ⟨bt,0,none⟩),.pointer (some ⟨bg,0,none⟩)] w fun e w'=> ∃u,e= .returned u∧OwnB w.heap.size w' u (t.giveZ kz z1 z2 S (qf5 r D))∧Below w.heap.size w w':=by
 obtain⟨b0,J⟩:=Ex w.heap.size;obtain⟨a0,c0,rfl, -, -⟩:=id hd.slice;have HD:=hid hd;have c2:w.cell? ⟨bp,2,none⟩=some (.slice (some ⟨bu,ou,none⟩) n uc):=qd hp 2;have ci:w.cell? ⟨bi,0,none⟩=some (.int .i64 k):=qd hi 0;have bf:=(Ai hp).1;have be:=(Ai hi).1;have bv:(k:Int)<(n:Int):=by omega
 have HT:=hid hT;have HP:=hid hp;have HI:=hid hi;have aR:=hid hg;have ak:=hid al;have ap:=hid ax;obtain⟨au,ku,VU,eu, -, -⟩:=id al;obtain⟨av,kv,VV,ev, -, -⟩:=id ax;rw[eu]at hU ak;rw[ev]at hV ap;have aq: ∀d∈r.1,d.length=t.i.toNat:=fun d hd=>by have:=ai d (List.mem_append_left _ hd);omega
 have ad: ∀d∈r.2,d.length=t.i.toNat:=fun d hd=>by have:=ai d (List.mem_append_right _ hd);omega
 have aj:=hid (qdv (m:=64) (fun d hd=>by have:=aq d hd;omega));have aF:=hid (qdv (m:=64) (fun d hd=>by have:=ad d hd;omega));have aS:=hid aq;have a6:=hid ad;have a8:=hid (fun d hd=>(ag.1.2 d hd).2);have a3:=hid (fun d hd=>(ag.2.2 d hd).2);obtain⟨nb,ah⟩:=Ex r.1.length;obtain⟨na,af⟩:=Ex r.2.length;have bb:nb≤1048576:=by rw[←ah];exact ag.1.1
 have ba:na≤1048576:=by rw[←af];exact ag.2.1
 rw[ah]at hU ak aj;rw[af]at hV ap aF;have aJ:=hid ah;have aI:=hid af;have aK:=hid (show qf5 r D=Qb r.1 nb++D++Qb r.2 na by unfold qf5;rw[ah,af]);have aE:=hid (fun(W:World) (I:Below b0 w W) (xa:Option Addr) (xc:Nat) (hx:Hold W (.slice xa (Qb r.1 nb++D++Qb r.2 na).length xc) (Qb r.1 nb++D++Qb r.2 na)) (aY:(Qb r.1 nb++D++Qb r.2 na).length≤1073741824)=>qe0 t kz z1 z2 (Qb r.1 nb++D++Qb r.2 na) total ht S xa xc W (h.below (J▸I)) hS hx aY);clear h hS hd hT hp hi hg al ax ag ai aq ad ah af eu ev ht;go_enter Tryz.func125,Tryz.ntmps125
 go_wp2_with fail
 go_loopw [19,7] (fun i o wr=> ∃(j:Nat) (v:Value),i= .int .i64 j∧o=v∧j≤nb∧wr.ownsRow b0 5 1 v (Qb r.1 j).length ((Qb r.1 j).map qo)∧Below b0 w wr) (fun i _ _=>nb - (intOf i).toNat)
 case atStart=>exact⟨0,_,rfl,rfl,Nat.zero_le _,Wo _ _ _ _,Below.refl _ _⟩
 case round=>
  obtain⟨j,v,rfl,rfl,hj,G,I⟩:=hrel;have Z:b0≤wr.heap.size:=by have:=I.size;omega
  by_cases aw:j<nb
  case pos=>
   have aM:(j:Int)<(nb:Int):=by omega
   obtain⟨-,b',o',x,cx,rfl,a5,az,am⟩:=pRowsAt.elem (ak.out.below (J▸I)) aw;have ac:(QH r.1 j).length=t.i.toNat:=aS.out _ (yQ (by have:=aJ.out;omega));have ao:QH r.1 j≠[]:=fun e=>by rw[e]at ac;simp at ac;omega
   have an:(Qb r.1 j).length+(QH r.1 j).length≤1099511627776:=by
    have:=aj.out j (by omega)
    omega
   have aa:=hid G;have HB:=hid I;clear G I ac;go_wp2_with (at_builtin;refine YZ rfl _ _ rfl b0 (Qb r.1 j) _ rfl aa.out _ (QH r.1 j) rfl am ao an Z ?_;intro v' w' X Y)
   refine⟨⟨j+1,v',by go_num,rfl,by omega,by rw[Qb];exact X,HB.out.grown Y Z (fun k e=>(aa.out.lt k e).1)⟩,by simp[intOf]<;>omega⟩
  obtain rfl:j=nb:=by omega
  have aU:(Qb r.1 j).length+D.length≤1099511627776:=by
   have:=aj.out j (by omega)
   omega
  have aC:=(HD.out.below (J▸I)).holds8;have aa:=hid G;have HB:=hid I;have a4:wr.cell? ⟨bp,2,none⟩=some (.slice (some ⟨bu,ou,none⟩) n uc):=qd (qf HP.out (J▸I)) 2;have aQ:wr.cell? ⟨bi,0,none⟩=some (.int .i64 k):=qd (qf HI.out (J▸I)) 0;clear G I;go_upto_region 8 with(at_builtin;refine YZ rfl _ _ rfl b0 (Qb r.1 j) _ rfl aa.out _ D rfl aC a9 aU Z ?_;intro v' w' X Y)
  have ae:=HB.out.grown Y Z (fun k e=>(aa.out.lt k e).1);have aG:=hid X;have aB:=hid ae;have aZ:b0≤w'.heap.size:=by have:=ae.size;omega
  have aT:w'.cell? ⟨bp,2,none⟩=some (.slice (some ⟨bu,ou,none⟩) n uc):=qd (qf HP.out (J▸ae)) 2;have aW:w'.cell? ⟨bi,0,none⟩=some (.int .i64 k):=qd (qf HI.out (J▸ae)) 0;have aL:bp<w'.heap.size:=by omega
  have aO:bi<w'.heap.size:=by omega
  have a7:w'.cell? ⟨bu,ou+k*2+1,none⟩=some (.slice av na kv):=((J▸ae:Below w.heap.size w w').cell (p:=⟨bu,ou+k*2+1,none⟩) aV).trans hV;have aN:bu<w'.heap.size:=by omega
  clear aa HB X Y ae aC a4 aQ Z;clear wr;go_wp2_with fail
  go_loopw [37,7] (fun i o wr=> ∃(O:Nat) (v:Value),i= .int .i64 O∧o=v∧O≤na∧wr.ownsRow b0 5 1 v (Qb r.1 j++D++Qb r.2 O).length ((Qb r.1 j++D++Qb r.2 O).map qo)∧Below b0 w wr) (fun i _ _=>na - (intOf i).toNat)
  case atStart=>exact⟨0,_,rfl,rfl,Nat.zero_le _,by rw[show Qb r.2 0=[] from rfl,List.append_nil];exact aG.out,aB.out⟩
  case round=>
   clear aG aB aZ aT aW aL aO a7 aN;obtain⟨O,v,rfl,rfl,bq,G,I⟩:=hrel;have Z:b0≤wr.heap.size:=by have:=I.size;omega
   have aD:=aj.out j (by omega);have ad:=aF.out O (by omega);by_cases aw:O<na
   case pos=>
    have aM:(O:Int)<(na:Int):=by omega
    obtain⟨-,b',o',x,cx,rfl,a5,az,am⟩:=pRowsAt.elem (ap.out.below (J▸I)) aw;have ac:(QH r.2 O).length=t.i.toNat:=a6.out _ (yQ (by have:=aI.out;omega));have ao:QH r.2 O≠[]:=fun e=>by rw[e]at ac;simp at ac;omega
    have an:(Qb r.1 j++D++Qb r.2 O).length+(QH r.2 O).length≤1099511627776:=by
     rw[List.length_append,List.length_append];omega
    have aa:=hid G;have HB:=hid I;clear G I ac aD ad;go_wp2_with (at_builtin;refine YZ rfl _ _ rfl b0 (Qb r.1 j++D++Qb r.2 O) _ rfl aa.out _ (QH r.2 O) rfl am ao an Z ?_;intro v' w' X Y)
    refine⟨⟨O+1,v',by go_num,rfl,by omega,by rw[show Qb r.1 j++D++Qb r.2 (O+1)=Qb r.1 j++D++Qb r.2 O++QH r.2 O by simp[Qb]];exact X,HB.out.grown Y Z (fun k e=>(aa.out.lt k e).1)⟩,by simp[intOf]<;>omega⟩
   obtain rfl:O=na:=by omega
   obtain⟨va,vn,vc,rfl⟩:=qs G;obtain rfl:=yM G;have aA: ∀z∈Qb r.1 j++D++Qb r.2 O,0≤z∧z≤255:=by
    have key: ∀(ds:List (List Int)) (h: ∀d∈ds,qcl d) (q:Nat),q≤ds.length→ ∀z∈Qb ds q,0≤z∧z≤255:=by
     intro ds h q;induction q with
     | zero=>intro _ z hz;cases hz
     | succ q ih=>
      intro hq z hz;rcases List.mem_append.1 hz with h8|h8
      ·exact ih (by omega) z h8
      ·exact h _ (yQ (by omega)) z h8
    intro z hz;rcases List.mem_append.1 hz with h8|h8
    ·rcases List.mem_append.1 h8 with h9|h9
     ·exact key _ a8.out _ (by have:=aJ.out;omega) z h9
     ·exact HD.out.1 z h9
    ·exact key _ a3.out _ (by have:=aI.out;omega) z h8
   have ay:=aE.out wr I va vc (Qi G aA) (by rw[List.length_append,List.length_append];omega);rw[←aK.out]at ay G⊢;have ar:=hid ay;have HB:=hid I;have aX:=qf HT.out (J▸I);have ab:=qf aR.out (J▸I);have bo:wr.cell? ⟨bp,0,none⟩=some (.int .u64 total):=qd (qf HP.out (J▸I)) 0;have bc:bp<wr.heap.size:=by omega
   clear ay G I aA aE aD ad;unfold TreeV.val at ar;have bs:wr.cell? ⟨bg,0,none⟩=some (.int .i64 (S.row:Nat)):=qd ab 0;have bn:wr.cell? ⟨bg,1,none⟩=some (.int .u64 (S.at_:Nat)):=qd ab 1;have bd:wr.cell? ⟨bg,2,none⟩=some (.int .u64 (S.frm:Nat)):=qd ab 2;have br:wr.cell? ⟨bg,3,none⟩=some (.int .u64 (S.to_:Nat)):=qd ab 3;have bj:wr.cell? ⟨bg,4,none⟩=some (.bool S.last):=qd ab 4;have bm:wr.cell? ⟨bg,5,none⟩=some (.bool S.root):=qd ab 5;have bk:bg<wr.heap.size:=(Ai ab).1;go_wp2_with (refine L26 bt rfl aX ?_)
   refine ar.out.mono ?_;rintro e w9 ⟨x,rfl,hx,aH⟩;have HX:=hid (hx.le Z);have aP:=hid (HB.out.trans (aH.mono Z));clear hx aH;go_wp2_with fail
   go_ret
   exact⟨_,rfl,by rw[J];exact HX.out,by rw[J];exact aP.out⟩
theorem qhO {big:Bool}{q kz ds:List Int}{la:Bool}{o:Int}(h:1≤o∧o≤(mB big:Nat)):((Jm big q kz la o ds).length:Int)=o:=by
 unfold Jm;rw[List.length_take,Zf];omega
theorem Jp {t:TreeV}(h:t.validE=0)(rt:Bool):1≤t.outN rt∧t.outN rt≤(mB t.big:Nat):=by
 have o:=yx h;obtain⟨-,d1,d2,q,r, -⟩:=qn h
 cases rt
 ·show 1≤t.i∧t.i≤_;omega
 ·show 1≤t.d∧t.d≤_;omega
theorem Z1 {t:TreeV}(h:t.validE=0)(kz z1 z2:List Int)(row i:Nat)(la rt:Bool)(d:List Int):((t.node kz z1 z2 row i la rt d).length:Int)=t.outN rt:=qhO (Jp h rt)
theorem yI (t:TreeV)(kz z1 z2:List Int)(row:Nat)(rt:Bool)(L:List (List Int)){m i:Nat}(h:i<m):qC (t.rowZ kz z1 z2 row rt L m) i=t.node kz z1 z2 row i (decide (i+1=L.length)) rt (qC L i):=by
 simp[qC,TreeV.rowZ,Lg,h]
def TreeV.pathR (t:TreeV)(kz z1 z2:List Int)(total leaf:Nat)(ss:List Qh)(piece:List Int):Nat→List Int
 | 0=>t.giveZ kz z1 z2 (qx t total leaf 0) piece
 | k+1=>t.giveZ kz z1 z2 (qx t total leaf (k+1)) (qf5 (qA ss k) (t.pathR kz z1 z2 total leaf ss piece k))
def qeC (t:TreeV)(kz z1 z2:List Int)(total leaf:Nat)(ss:List Qh)(piece:List Int):Nat→List Int
 | 0=>piece
 | k+1=>t.pathR kz z1 z2 total leaf ss piece k
theorem qfF {t:TreeV}(X:0≤t.l∧t.l≤4294967295){total leaf:Nat}(U:(total:Int)≤18446744073709551615)(h:t.spotE total 0 leaf=0){k:Nat}(J:k<(t.rowsOf total).length):SpotOk t total (qx t total leaf k):=by
 have q:t.err total=0:=by
  by_cases G:t.err total=0
  ·exact G
  ·unfold TreeV.spotE at h;rw[if_pos G]at h;exact absurd h G
 have o:leaf<nth (t.rowsOf total) 0:=by
  unfold TreeV.spotE at h;rw[if_neg (by simp[q])]at h;by_cases D:t.there total 0 leaf
  ·exact D.2.2
  ·rw[if_neg D]at h;omega
 have Y:=qF q;obtain⟨S,V,r,I, -⟩:=Z4 q o J;have O:=qd5 X U q J (yU Y o k J);refine⟨by rw[r,I];exact O.1,by rw[r];exact O.2,by rw[r,I];exact S,by rw[r,I];exact V⟩
theorem qbj {t:TreeV}(h:t.validE=0)(kz z1 z2:List Int)(S:SpotV)(ds:List Int):(t.giveZ kz z1 z2 S ds).length≤64∧t.giveZ kz z1 z2 S ds≠[]:=by
 have q:=Z1 h kz z1 z2 S.row S.at_ S.last S.root ds;have D:=Jp h S.root;have r:mB t.big≤64:=by cases t.big<;>decide
 refine⟨?_,fun e=>?_⟩
 ·show(t.node _ _ _ _ _ _ _ _).length≤64;omega
 ·have:(t.node kz z1 z2 S.row S.at_ S.last S.root ds).length=0:=by
   have o:t.node kz z1 z2 S.row S.at_ S.last S.root ds=[]:=e;rw[o];rfl
  omega
theorem Z0 {t:TreeV}(h:t.validE=0)(kz z1 z2:List Int)(total leaf:Nat)(ss:List Qh)(piece:List Int)(k:Nat):(t.pathR kz z1 z2 total leaf ss piece k).length≤64∧t.pathR kz z1 z2 total leaf ss piece k≠[]:=by
 cases k<;>exact qbj h ..
theorem qjE:(Tryz.prog.info? 37).map (fun i=>(i.zero,i.size,i.bytes))=some (some .nilFunc,1,8):=by kernel_rfl
def qe2 (bt bp bl:Nat)(BI BG:Nat→Nat)(j:Nat):List Value:= .func (.func 123) #[] #[.pointer (some ⟨bt,0,none⟩),.pointer (some ⟨bp,0,none⟩),.pointer (some ⟨bl,0,none⟩)]::(List.range j).map fun i=> .func (.func 125) #[] #[.pointer (some ⟨bp,0,none⟩),.pointer (some ⟨BI i,0,none⟩),.pointer (some ⟨bt,0,none⟩),.pointer (some ⟨BG i,0,none⟩)]
theorem qhB (o D G:Nat)(r q:Nat→Nat)(j x y:Nat):qe2 o D G (fun i=>if i=j then x else r i) (fun i=>if i=j then y else q i) (j+1)=qe2 o D G r q j++[.func (.func 125) #[] #[.pointer (some ⟨D,0,none⟩),.pointer (some ⟨x,0,none⟩),.pointer (some ⟨o,0,none⟩),.pointer (some ⟨y,0,none⟩)]]:=by
 unfold qe2;rw[List.range_succ,List.map_append,List.cons_append];congr 2
 ·refine List.map_congr_left fun i hi=>?_
  have:=List.mem_range.1 hi
  show Value.func _ _ #[_,.pointer (some ⟨if i=j then x else r i,0,none⟩),_,.pointer (some ⟨if i=j then y else q i,0,none⟩)]=_
  rw[if_neg (by omega),if_neg (by omega)]
 ·simp
def qad (t:TreeV)(total leaf j:Nat):Array Value:= #[.int .i64 ((qx t total leaf (j+1)).row:Nat),.int .u64 ((qx t total leaf (j+1)).at_:Nat),.int .u64 ((qx t total leaf (j+1)).frm:Nat),.int .u64 ((qx t total leaf (j+1)).to_:Nat),.bool (qx t total leaf (j+1)).last,.bool (qx t total leaf (j+1)).root,.int .u64 (chI t total leaf j)]
def J9 (t:TreeV)(kz z1 z2:List Int)(total leaf:Nat)(ss:List Qh)(piece:List Int)(b:Nat)(w:World)(v:Value)(e:Int):Prop:=
 (t.spotE total 0 leaf≠0∧e=t.spotE total 0 leaf∧v= .slice none 0 0)∨
 (t.spotE total 0 leaf=0∧ ¬((piece.length:Int)=((qx t total leaf 0).to_:Int) - ((qx t total leaf 0).frm:Int)∧Zr t.i ((t.rowsOf total).length - 1) (chI t total leaf) (afI t total leaf) ss)∧e=4∧v= .slice none 0 0)∨
 (t.spotE total 0 leaf=0∧((piece.length:Int)=((qx t total leaf 0).to_:Int) - ((qx t total leaf 0).frm:Int)∧Zr t.i ((t.rowsOf total).length - 1) (chI t total leaf) (afI t total leaf) ss)∧e=0∧OwnB b w v (t.pathR kz z1 z2 total leaf ss piece ((t.rowsOf total).length - 1)))
theorem Zz {t:TreeV}(S:0≤t.l∧t.l≤4294967295){total leaf:Nat}(h:t.spotE total 0 leaf=0):(qx t total leaf 0).frm≤(qx t total leaf 0).to_∧(qx t total leaf 0).to_≤total∧(qx t total leaf 0).frm=leaf*t.ln∧leaf<nth (t.rowsOf total) 0:=by
 have q:t.err total=0:=by
  by_cases I:t.err total=0
  ·exact I
  ·unfold TreeV.spotE at h;rw[if_pos I]at h;exact absurd h I
 have o:leaf<nth (t.rowsOf total) 0:=by
  unfold TreeV.spotE at h;rw[if_neg (by simp[q])]at h;by_cases D:t.there total 0 leaf
  ·exact D.2.2
  ·rw[if_neg D]at h;omega
 obtain⟨G,V,U,X⟩:=Qu S q;have r:=qF q;have O: ¬(1≤0∧nth (t.rowsOf total) 0=1):=by omega
 unfold qx Qw;by_cases J:leaf=nth (t.rowsOf total) 0 - 1
 ·rw[Yl O J];rw[r.first]at o;have:=qar G o
  exact⟨by simpa using this,by simp,by simp,by rw[r.first];exact o⟩
 ·rw[YI O J];rw[r.first]at o J;have:=qar (total:=total) (l:=t.ln) (k:=leaf+1) G (by omega)
  refine⟨?_,by simpa using this,by simp,by rw[r.first];exact o⟩;simp only[if_true];exact Nat.mul_le_mul_right _ (by omega)
theorem qij (t:TreeV)(V:0≤t.l∧t.l≤4294967295)(total leaf:Nat)(Z:(total:Int)≤18446744073709551615)(S:t.spotE total 0 leaf≠0)(u v:Value)(w:World):
  Calls Tryz.prog 92 #[t.val,.agg #[.int .u64 total,.int .u64 leaf,u],v] w fun r w'=>r= .returned (.tuple #[.slice none 0 0,.int .i64 (t.spotE total 0 leaf)])∧Below w.heap.size w w':=by
 obtain⟨o,G⟩:=Ex w.heap.size;have X:=hid (qbs t V total Z leaf S);have hq:(t.spotE total 0 leaf != 0)=true:=by rw[bne_iff_ne];exact S
 generalize t.spotE total 0 leaf=ev at*;clear S;unfold TreeV.val at*;go_enter Tryz.func92,Tryz.ntmps92
 go_upto_region 1 with(fail)
 refine qm ?_;intro q D;have U:q.heap[o]? =some (.cells t.c 26 (0,0)):=by rw[D];exact(Bh _ _ _ (by simp;omega)).trans (qe _ _ G.symm)
 have I:q.heap[o+1]? =some (.cells #[.int .u64 total,.int .u64 leaf,u] 55 (0,0)):=by rw[D];exact qe _ _ (by simp;omega)
 have J:Below o w q:=by rw[D,←G];exact(Br.alloc Nl _).alloc (by simp) _
 have aa:o+1<q.heap.size:=(Ai I).1;have k0:q.cell? ⟨o+1,0,none⟩=some (.int .u64 total):=qd I 0;have k1:q.cell? ⟨o+1,1,none⟩=some (.int .u64 leaf):=qd I 1;clear D;go_wp2_with (refine L26 o rfl U ?_)
 refine(X.out q).mono ?_;rintro e w2 ⟨rfl,O⟩;have Y:=hid (J.trans (O.mono (show o≤q.heap.size by omega)));clear O J;go_wp2_with fail
 go_ret2
 exact⟨rfl,by rw[G];exact Y.out⟩
theorem qjs (t:TreeV)(kz z1 z2 piece:List Int)(total leaf:Nat)(ht:(total:Int)≤18446744073709551615)(bl:(leaf:Int)≤18446744073709551615)(he:t.spotE total 0 leaf=0)(u pv:Value)(ss:List Qh)(w:World)(h:TreeOk t kz z1 z2 w)(hs:StepsAt w u ss)(ho:yZ 1048576 ss)(hp:Hold w pv piece)(cj:piece.length≤1048576):
  Calls Tryz.prog 92 #[t.val,.agg #[.int .u64 total,.int .u64 leaf,u],pv] w fun r w'=> ∃v e,r= .returned (.tuple #[v,.int .i64 e])∧J9 t kz z1 z2 total leaf ss piece w.heap.size w' v e∧Below w.heap.size w w':=by
 obtain⟨D,O⟩:=Ex w.heap.size;obtain⟨i0,hi,bq,bG,bF⟩:=info_parts qjE;have F:=Y4 h.l ht he;obtain⟨bT,cB,i1,i2,bE⟩:=zi h.l ht he;obtain⟨m,hm⟩:=Ex ((t.rowsOf total).length - 1);have cr:1≤m:=by have:=F.two;omega
 have ce:m≤255:=by have:=F.most;omega
 have bX:(t.rowsOf total).length=m+1:=by have:=F.two;omega
 have aJ:=zQ t h.l total ht leaf he;rw[hm]at aJ;have HW:=hid aJ;have bJ:=hid (qbY bT);rw[hm]at bJ;have aU:=hid (fun(k:Nat) (hk:k≤m)=>qfF h.l ht he (k:=k) (by rw[bX];omega));obtain⟨I,ay⟩:=Ex (qx t total leaf 0);have ai:=aU.out 0 (by omega);have aa:(qx t total leaf 0).row=0∧(qx t total leaf 0).at_=leaf:=⟨(zI _ _ _ _ _ _).1,(zI _ _ _ _ _ _).2.1⟩;rw[ay]at ai aa;have ae:=fun(W:World)=>zl t h.l total ht ((0:Nat):Int) leaf W
 rw[show t.spotR total ((0:Nat):Int) leaf=I by have:=ai.s;rw[aa.1,aa.2]at this;exact this,show t.spotE total ((0:Nat):Int) leaf=0 from he]at ae;unfold SpotV.val at ae;have bi:=hid ae;have a7:=Zz h.l he;rw[ay]at a7;have cx:(I.frm:Int)≤I.to_∧(I.to_:Int)≤18446744073709551615:=by omega
 obtain⟨cK,cJ⟩:=cx;have cV:IntKind.u64.wrap (piece.length:Int)=(piece.length:Int):=u64_wrap_id _ (by omega) (by omega);have cT:IntKind.u64.wrap ((I.to_:Int) - (I.frm:Int))=(I.to_:Int) - (I.frm:Int):=u64_wrap_id _ (by omega) (by omega);have ag:=hid (fun(W:World) (g aY:Nat) (h1:StepsAt W u ss) (aq:StagesIs W g m (fun j=>((qx t total leaf (j+1)).row:Int)) (fun j=>((qx t total leaf (j+1)).at_:Int)) (fun j=>((qx t total leaf (j+1)).frm:Int)) (fun j=>((qx t total leaf (j+1)).to_:Int)) (chI t total leaf) (fun j=>(qx t total leaf (j+1)).last) (fun j=>(qx t total leaf (j+1)).root))=>qe3 t total leaf u ss W h1 ho g aY m aq.1 ce cr _ _ _ _ (chI t total leaf) (afI t total leaf) _ _ aq.2 bJ.out);have aD:Hid (∀(W:World) (v:Value) (e:Int),J9 t kz z1 z2 total leaf ss piece D W v e↔((t.spotE total 0 leaf≠0∧e=t.spotE total 0 leaf∧v= .slice none 0 0)∨(t.spotE total 0 leaf=0∧ ¬((piece.length:Int)=(I.to_:Int) - (I.frm:Int)∧Zr t.i m (chI t total leaf) (afI t total leaf) ss)∧e=4∧v= .slice none 0 0)∨(t.spotE total 0 leaf=0∧((piece.length:Int)=(I.to_:Int) - (I.frm:Int)∧Zr t.i m (chI t total leaf) (afI t total leaf) ss)∧e=0∧OwnB D W v (t.pathR kz z1 z2 total leaf ss piece m)))):=hid (fun W v e=>by unfold J9;rw[ay,hm]);have HE:=hid he;have ct:=hid h;have HS:=hid hs;have HO:=hid ho;have HP:=hid hp;obtain⟨pa,pc,rfl, -, -⟩:=id hp.slice;obtain⟨ua,uc,UU,VV,rfl,cX, -⟩:=id hs;have b9:Hid (t.pathR kz z1 z2 total leaf ss piece 0=t.giveZ kz z1 z2 I piece):=hid (by unfold TreeV.pathR;rw[ay]);have cb:=hid ai;have b7:=hid (⟨i1,i2⟩:1≤t.i∧t.i≤64);have bD:=hid bE;have cO:=hid aa;clear F bT cB i1 i2 bE hm bX aJ ai aa ae a7 he h hs ho hp ay bl;unfold TreeV.val at*;go_enter Tryz.func92,Tryz.ntmps92
 go_upto_region 1 with(fail)
 refine qm ?_;intro wA aP;have a3:wA.heap[D]? =some (.cells t.c 26 (0,0)):=by rw[aP];exact(Bh _ _ _ (by simp;omega)).trans (qe _ _ O.symm)
 have am:wA.heap[D+1]? =some (.cells #[.int .u64 total,.int .u64 leaf,.slice ua ss.length uc] 55 (0,0)):=by rw[aP];exact qe _ _ (by simp;omega)
 have bM:Below D w wA:=by rw[aP,←O];exact(Br.alloc Nl _).alloc (by simp) _
 have cH:D+1<wA.heap.size:=(Ai am).1;have k0:wA.cell? ⟨D+1,0,none⟩=some (.int .u64 total):=qd am 0;have k1:wA.cell? ⟨D+1,1,none⟩=some (.int .u64 leaf):=qd am 1;clear aP;go_wp2_with (refine L26 D rfl a3 ?_)
 refine(HW.out wA).mono ?_;rintro e w2 ⟨g,aY,rfl,aq,aB⟩;clear k0 k1;have aE:=qf a3 aB;have ak:=qf am aB;have bC:=hid (bM.trans (aB.mono (show D≤wA.heap.size by omega)));have bx:=hid aq;have cn:D+1<w2.heap.size:=by have:=aB.size;omega
 have k0:w2.cell? ⟨D+1,0,none⟩=some (.int .u64 total):=qd ak 0;have k1:w2.cell? ⟨D+1,1,none⟩=some (.int .u64 leaf):=qd ak 1;have bf:=hid aE;have aX:=hid ak;clear aq aB bM a3 am HW cH;clear wA;go_upto_region 4 with(fail)
 go_wp2_with (refine L26 D rfl aE ?_)
 refine(bi.out w2).mono ?_;rintro e w3 ⟨rfl,S⟩;have be:=hid (qf bf.out S);have aT:=hid (qf aX.out S);have bN:=hid (bC.out.trans (S.mono (show D≤w2.heap.size by omega)));have aZ:=hid (bx.out.below S);have cd:D+1<w3.heap.size:=by have:=S.size;omega
 clear S aE ak k0 k1 bf aX bC bx cn;go_upto_region 5 with((with_reducible show wpList _ _ _ (Oper.mk none (Op.store 96 _ _) _ _ _ _::_) _ _);refine wpList_store_row rfl 96 _ _ rfl w3.heap.size #[.int .i64 (I.row:Nat),.int .u64 (I.at_:Nat),.int .u64 (I.frm:Nat),.int .u64 (I.to_:Nat),.bool I.last,.bool I.root] rfl rfl 96 _ (Wn _ _) (by kernel_rfl) rfl (by simp[Value.oneCell']) ?_)
 refine qm ?_;intro V hV;obtain⟨b3,S⟩:=Ex w3.heap.size;have al:V.heap[b3]? =some (.cells #[.int .i64 (I.row:Nat),.int .u64 (I.at_:Nat),.int .u64 (I.frm:Nat),.int .u64 (I.to_:Nat),.bool I.last,.bool I.root] 96 (0,0)):=by rw[hV,←S];exact setRow_heap _ _ _ _ _ _ (Wn _ _)
 have av:Below b3 w3 V:=by rw[hV,←S];exact below_setRow (Br.alloc Nl _) Nl _
 have X:=hid ((av.block D (by omega)).trans be.out);have aw:=hid ((av.block (D+1) (by omega)).trans aT.out);have aM:=hid (bN.out.trans (av.mono (show D≤b3 by omega)));have aG:=hid (aZ.out.below (S▸av));have bp:=hid al;rw[S];have an:D+1<b3∧b3<V.heap.size:=by have:=(Ai al).1;omega
 obtain⟨an,co⟩:=an;have c2:V.cell? ⟨b3,2,none⟩=some (.int .u64 (I.frm:Nat)):=qd al 2;have c3:V.cell? ⟨b3,3,none⟩=some (.int .u64 (I.to_:Nat)):=qd al 3;have aF:D<V.heap.size∧D+1<V.heap.size:=by omega
 obtain⟨aF,b4⟩:=aF;clear hV av al S be aT bN aZ cd bi;by_cases ab:(piece.length:Int)=(I.to_:Int) - (I.frm:Int)
 case neg=>
  have hq:((piece.length:Int) != (I.to_:Int) - (I.frm:Int))=true:=by rw[bne_iff_ne];exact ab
  have aI:=hid ab;clear ab;go_wp2_with fail
  go_ret2
  exact⟨_,_,rfl,by rw[O];exact(aD.out _ _ _).2 (.inr (.inl ⟨HE.out,fun h=>aI.out h.1,rfl,rfl⟩)),by rw[O];exact aM.out⟩
 have hq:((piece.length:Int) != (I.to_:Int) - (I.frm:Int))=false:=by rw[ab];simp
 have aI:=hid ab;clear ab;have cE:V.cell? ⟨D,0,none⟩=some (.int .i64 t.k):=qd X.out 0;have ch:V.cell? ⟨D,1,none⟩=some (.int .i64 t.d):=qd X.out 1;have cA:V.cell? ⟨D,2,none⟩=some (.int .i64 t.f):=qd X.out 2;have cl:V.cell? ⟨D,3,none⟩=some (.int .i64 t.p):=qd X.out 3;have cy:V.cell? ⟨D,4,none⟩=some (.int .u32 t.l):=qd X.out 4;have cc:V.cell? ⟨D,5,none⟩=some (.int .i64 t.i):=qd X.out 5;have ci:V.cell? ⟨D,6,none⟩=some (.slice t.ka t.kl t.kc):=qd X.out 6;have cC:V.cell? ⟨D,7,none⟩=some (.slice t.sa t.sl t.sc):=qd X.out 7;have b8:V.cell? ⟨D,8,none⟩=some (.slice t.pa t.pl t.pc):=qd X.out 8;have cD:V.cell? ⟨D+1,0,none⟩=some (.int .u64 total):=qd aw.out 0;have cw:V.cell? ⟨D+1,1,none⟩=some (.int .u64 leaf):=qd aw.out 1;have cq:V.cell? ⟨D+1,2,none⟩=some (.slice ua ss.length uc):=qd aw.out 2;go_wp2_with fail
 refine(ag.out V g aY (HS.out.below (O▸aM.out)) aG.out).mono ?_;rintro e w5 ⟨bb,rfl,bL,af⟩;have bo:=hid bL;have a8:=hid (qf X.out af);have aV:=hid (qf aw.out af);have ba:=hid (qf bp.out af);have aW:=hid (aM.out.trans (af.mono (show D≤V.heap.size by omega)));have aH:=hid (aG.out.below af);have cu:b3<w5.heap.size:=by have:=af.size;omega
 clear bL af X aw bp aM aG c2 c3 co aF b4 ag cE ch cA cl cy cc ci cC b8 cD cw cq;clear V
 cases bb
 case false=>
  go_wp2_with fail
  go_ret2
  exact⟨_,_,rfl,by rw[O];exact(aD.out _ _ _).2 (.inr (.inl ⟨HE.out,fun h=>absurd (bo.out.2 h.2) (by decide),rfl,rfl⟩)),by rw[O];exact aW.out⟩
 go_upto_region 8 with(fail)
 go_upto_region 9 with(at_builtin;refine QN rfl _ _ _ rfl w5.heap.size 37 (by decide) i0 .nilFunc 1 8 Tryz.underlying210 hi bq bG bF rfl (by decide) (.slice none 0 0) 0 [] [.func (.func 123) #[] #[.pointer (some ⟨D,0,none⟩),.pointer (some ⟨D+1,0,none⟩),.pointer (some ⟨b3,0,none⟩)]] _ rfl (Wo _ _ _ _) rfl rfl (by simp[Value.oneCell']) (by unfold maxLen;omega) (by omega) Nl ?_;intro v' w' ad J aK)
 have bj:=hid ad;have bs:Below w5.heap.size w5 w':=⟨J.os,J.tape,J.output,J.size,fun k hk=>J.block k hk⟩;have bP:=hid bs;have cR:(m:Int)≤255:=by omega
 have bk:g<w5.heap.size:=aH.out.1;clear ad J aK bs;go_wp2_with fail
 go_loopw [61,12] (fun i v wr=> ∃(j:Nat) (BI BG:Nat→Nat),i= .int .i64 j∧j≤m∧wr.ownsRow w5.heap.size 37 1 v (j+1) (qe2 D (D+1) b3 BI BG j)∧(∀q,q<j→wr.heap[BI q]? =some (.cells #[.int .i64 q] 3 (0,0))∧wr.heap[BG q]? =some (.cells (qad t total leaf q) 127 (0,0)))∧Below w5.heap.size w5 wr) (fun i _ _=>m - (intOf i).toNat)
 case atStart=>exact⟨0,fun _=>0,fun _=>0,rfl,Nat.zero_le _,bj.out,fun q hq=>absurd hq (by omega),bP.out⟩
 case round=>
  clear bj bP;obtain⟨j,BI,BG,rfl,hj,U,aN,G⟩:=hrel;by_cases an:j<m
  case pos=>
   have b5:(j:Int)<(m:Int):=by omega
   obtain⟨s0,s1,s2,s3,s4,s5,s6⟩:=aH.out.2 j an;have ac: ∀o,wr.cell? ⟨g,o,none⟩=w5.cell? ⟨g,o,none⟩:=fun o=>G.cell (p:=⟨g,o,none⟩) bk
   have z0:=(ac _).trans s0;have z1:=(ac _).trans s1;have z2:=(ac _).trans s2;have z3:=(ac _).trans s3;have z4:=(ac _).trans s4;have z5:=(ac _).trans s5;have z6:=(ac _).trans s6;have b6:g<wr.heap.size:=by have:=G.size;omega
   obtain⟨va,vn,vc,rfl⟩:=qs U;obtain rfl:j+1=vn:=(yM U).symm;have bY:=hid U;have ax:=hid aN;have HB:=hid G;have cp:w5.heap.size≤wr.heap.size:=G.size;clear s0 s1 s2 s3 s4 s5 s6 ac U aN G;go_upto_region 12 with((with_reducible show wpList _ _ _ (Oper.mk none (Op.store 127 _ _) _ _ _ _::_) _ _);refine wpList_store_row rfl 127 _ _ rfl (wr.heap.size+1) (qad t total leaf j) rfl rfl 127 _ (qe _ _ (by simp)) (by kernel_rfl) rfl (by simp[Value.oneCell',qad]) ?_)
   refine qm ?_;intro Y hY;obtain⟨bw,ah⟩:=Ex wr.heap.size;have aS:Y.heap[bw+1]? =some (.cells (qad t total leaf j) 127 (0,0)):=by rw[hY,←ah];exact setRow_heap _ _ _ _ _ _ (qe _ _ (by simp))
   have bQ:Y.heap[bw]? =some (.cells #[.int .i64 j] 3 (0,0)):=by rw[hY,←ah];exact((below_setRow (Br.alloc (by simp) _) (Nat.le_refl (wr.heap.size+1)) _).block wr.heap.size (by omega)).trans (Wn _ _)
   have aA:Below bw wr Y:=by rw[hY,←ah];exact below_setRow ((Br.alloc Nl _).alloc (by simp) _) (by omega) _
   have aQ:Y.ownsRow w5.heap.size 37 1 (.slice va (j+1) vc) (j+1) (qe2 D (D+1) b3 BI BG j):=Yd bY.out (fun g2 _ h2=>aA.block g2 (by omega));have bU:=hid aQ;have ck:=hid bQ;have cv:=hid aS;have cP:bw+1<Y.heap.size:=(Ai aS).1;have cz:=hid (HB.out.trans (aA.mono (show w5.heap.size≤bw by omega)));have bc:Hid (∀q,q<j→Y.heap[BI q]? =some (.cells #[.int .i64 q] 3 (0,0))∧Y.heap[BG q]? =some (.cells (qad t total leaf q) 127 (0,0))):=hid (fun q hq=>⟨qf (ax.out q hq).1 (ah▸aA),qf (ax.out q hq).2 (ah▸aA)⟩);rw[ah];have cQ:g<Y.heap.size:=by omega
   have cF:w5.heap.size≤Y.heap.size:=by omega
   clear hY aS bQ aA aQ bY ax HB ah z0 z1 z2 z3 z4 z5 z6 b6 cp;clear wr;go_wp2_with (at_builtin;refine QN rfl _ _ _ rfl w5.heap.size 37 (by decide) i0 .nilFunc 1 8 Tryz.underlying210 hi bq bG bF rfl (by decide) (.slice va (j+1) vc) (j+1) (qe2 D (D+1) b3 BI BG j) [.func (.func 125) #[] #[.pointer (some ⟨D+1,0,none⟩),.pointer (some ⟨bw,0,none⟩),.pointer (some ⟨D,0,none⟩),.pointer (some ⟨bw+1,0,none⟩)]] _ rfl bU.out rfl rfl (by simp[Value.oneCell']) (by unfold maxLen;omega) (by omega) cF ?_;intro v' w' ad J aK)
   have cg:Below w5.heap.size Y w':=⟨J.os,J.tape,J.output,J.size,fun k hk=>J.block k hk⟩;have stay: ∀(p:Nat) (c:Array Value) (T:TypeId),T≠37→Y.heap[p]? =some (.cells c T (0,0))→w'.heap[p]? =some (.cells c T (0,0)):=fun p c T hT hp=>(aK.block p (Ai hp).1 (fun e=>qdJ bU.out hp hT e.symm)).trans hp
   refine⟨⟨j+1,fun i=>if i=j then bw else BI i,fun i=>if i=j then bw+1 else BG i,by go_num,by omega,by rw[qhB];exact ad,fun q hq=>?_,cz.out.trans cg⟩,by simp[intOf]<;>omega⟩;by_cases bK:q=j
   ·subst bK;simp only[if_true];exact⟨stay _ _ _ (by decide) ck.out,stay _ _ _ (by decide) cv.out⟩
   ·simp only[if_neg bK];exact⟨stay _ _ _ (by decide) (bc.out q (by omega)).1,stay _ _ _ (by decide) (bc.out q (by omega)).2⟩
  obtain rfl:m=j:=by omega
  obtain⟨wm,rfl⟩: ∃wm,wm=wr:=⟨_,rfl⟩;obtain⟨gf,cf,rfl⟩:=ownsRow_form U (by omega);have bh: ∀i u,(qe2 D (D+1) b3 BI BG m)[i]? =some u→wm.cell? ⟨gf,i,none⟩=some u:=by
   obtain⟨bn,e1,e2,e3, -⟩:=zb U;intro i u hi;rw[qd e1 i];have h8:(bn.toList.take (m+1))[i]? =some u:=by rw[e3];exact hi
   rw[List.getElem?_take]at h8;split at h8
   ·rw[←Array.getElem?_toList];exact h8
   ·cases h8
  have bI:gf<wm.heap.size:=by obtain⟨bn,e1, -⟩:=zb U;exact(Ai e1).1
  have cI:=hid (bh 0 _ rfl);have cG:Hid (∀k,k<m→wm.cell? ⟨gf,k+1,none⟩=some (.func (.func 125) #[] #[.pointer (some ⟨D+1,0,none⟩),.pointer (some ⟨BI k,0,none⟩),.pointer (some ⟨D,0,none⟩),.pointer (some ⟨BG k,0,none⟩)])):=hid (fun k hk=>bh (k+1) _ (by simp[qe2,hk]));have ax:=hid aN;have a4:=hid (qf a8.out G);have a9:=hid (qf aV.out G);have bZ:=hid (qf ba.out G);have aL:=hid (aW.out.trans (G.mono (show D≤w5.heap.size by omega)));have cU:b3<wm.heap.size:=by have:=G.size;omega
  have aj:=bo.out.1 (by first|rfl|trivial);have br:=hid (ct.out.below (O▸aL.out));have bW:=hid (HP.out.below (O▸aL.out));have ca:=HS.out.below (O▸aL.out);clear U bh G aN a8 aV ba aW aH bk cu;obtain⟨a',cW,UU,VV,bt, -,bm⟩:=ca;simp only[Value.slice.injEq,true_and]at bt;obtain⟨rfl,rfl⟩:=bt;rcases bm with h8|⟨bu,ou,rfl,bA,bv⟩
  ·have:=aj.1;rw[h8]at this;simp at this;omega
  have cm:=hid bv;have ag:=hid aj;have a5:=hid aj.1;clear bv aj;have bO: ∀q,(qeC t kz z1 z2 total leaf ss piece q).length≤1048576:=by
   intro q
   cases q with
   | zero=>exact cj
   | succ q=>have:=(Z0 bD.out kz z1 z2 total leaf ss piece q).1;show(t.pathR kz z1 z2 total leaf ss piece q).length≤_;omega
  have cM:=hid bO;have cL:m+1≤256:=by omega
  clear bO;go_wp2_with fail
  go_loopw [74,15] (fun i d W=> ∃q:Nat,i= .int .i64 q∧q≤m+1∧Hold W d (qeC t kz z1 z2 total leaf ss piece q)∧(1≤q→OwnB D W d (qeC t kz z1 z2 total leaf ss piece q))∧Below wm.heap.size wm W) (fun i _ _=>m+1 - (intOf i).toNat)
  case atStart=>exact⟨0,rfl,Nat.zero_le _,bW.out,fun h=>absurd h (by decide),Below.refl _ _⟩
  case round=>
   obtain⟨q,rfl,cN,hD,hO,G⟩:=hrel;clear bW;have cS:gf<wr.heap.size:=by have:=G.size;omega
   have HB:=hid (aL.out.trans (G.mono (show D≤wm.heap.size by omega)));by_cases an:q<m+1
   case pos=>
    have b5:(q:Int)<(m:Int)+1:=by omega
    by_cases aR:q=0
    case pos=>
     have c0:wr.cell? ⟨gf,q,none⟩=some (.func (.func 123) #[] #[.pointer (some ⟨D,0,none⟩),.pointer (some ⟨D+1,0,none⟩),.pointer (some ⟨b3,0,none⟩)]):=by rw[aR];exact(G.cell (p:=⟨gf,0,none⟩) bI).trans cI.out
     have au:=qf a4.out G;have ap:=qf a9.out G;have bR:=qf bZ.out G;have Z:=hD;rw[aR]at Z;obtain⟨da,dc,rfl, -, -⟩:=id Z.slice;change Hold wr (.slice da piece.length dc) piece at Z
     have hG:=qim t kz z1 z2 piece total ht I D (D+1) b3 leaf _ da dc wr (br.out.below G) cb.out Z (by omega) au ap bR;have HG:=hid hG;have HQ:=hid aR;have bd:D≤wr.heap.size:=by have:=G.size;omega
     clear hD hO au ap bR Z hG aR;have aC:=hid G;clear G;go_wp2_with fail
     refine HG.out.mono ?_;rintro e w9 ⟨x,rfl,hx,ar⟩;have HX:=hid hx;have a6:=hid ar;clear hx ar;go_wp2_with fail
     have az:qeC t kz z1 z2 total leaf ss piece (q+1)=t.giveZ kz z1 z2 I piece:=by rw[HQ.out];exact b9.out
     exact⟨⟨q+1,by go_num,by omega,by rw[az];exact HX.out.hold,fun _=>by rw[az];exact HX.out.le bd,aC.out.trans (a6.out.mono (show wm.heap.size≤wr.heap.size from aC.out.size))⟩,by simp[intOf]<;>omega⟩
    case neg=>
     obtain⟨k,hk⟩: ∃k,q=k+1:=⟨q - 1,by omega⟩;have bg:k<m:=by omega
     have c0:wr.cell? ⟨gf,q,none⟩=some (.func (.func 125) #[] #[.pointer (some ⟨D+1,0,none⟩),.pointer (some ⟨BI k,0,none⟩),.pointer (some ⟨D,0,none⟩),.pointer (some ⟨BG k,0,none⟩)]):=by rw[hk];exact(G.cell (p:=⟨gf,k+1,none⟩) bI).trans (cG.out k bg)
     have au:=qf a4.out G;have ap:=qf a9.out G;obtain⟨aO,ao⟩:=ax.out k bg;have aO:=qf aO G;have ao:=qf ao G;unfold qad at ao;obtain⟨bV,bH,bS,bz⟩:=cm.out k (by have:=a5.out;omega);have Z:=hD;rw[hk]at Z;obtain⟨da,dc,rfl, -, -⟩:=id Z.slice;change Hold wr (.slice da (t.pathR kz z1 z2 total leaf ss piece k).length dc) (t.pathR kz z1 z2 total leaf ss piece k)at Z
     have hl:=Z0 bD.out kz z1 z2 total leaf ss piece k;have hG:=qil t kz z1 z2 (t.pathR kz z1 z2 total leaf ss piece k) total ht (qx t total leaf (k+1)) _ (qA ss k) D (D+1) (BI k) (BG k) bu ou k ss.length uc leaf (UU k) (VV k) (.slice da (t.pathR kz z1 z2 total leaf ss piece k).length dc) wr (br.out.below G) (aU.out (k+1) (by omega)) Z hl.2 hl.1 b7.out au ap aO ao (by have:=a5.out;omega) ((G.cell (p:=⟨bu,ou+k*2,none⟩) bA).trans bV) ((G.cell (p:=⟨bu,ou+k*2+1,none⟩) bA).trans bH) (by have:=G.size;omega) (bS.below G) (bz.below G) (HO.out.2 _ (Zx (by have:=a5.out;omega))) (ag.out.2 k bg).2.2;have HG:=hid hG;have bd:D≤wr.heap.size:=by have:=G.size;omega
     have HK:=hid hk;clear hD hO au ap aO ao bV bH bS bz hl Z hG hk;have aC:=hid G;clear G;go_wp2_with fail
     refine HG.out.mono ?_;rintro e w9 ⟨x,rfl,hx,ar⟩;have HX:=hid hx;have a6:=hid ar;clear hx ar;go_wp2_with fail
     have az:qeC t kz z1 z2 total leaf ss piece (q+1)=t.giveZ kz z1 z2 (qx t total leaf (k+1)) (qf5 (qA ss k) (t.pathR kz z1 z2 total leaf ss piece k)):=by rw[HK.out];rfl
     exact⟨⟨q+1,by go_num,by omega,by rw[az];exact HX.out.hold,fun _=>by rw[az];exact HX.out.le bd,aC.out.trans (a6.out.mono (show wm.heap.size≤wr.heap.size from aC.out.size))⟩,by simp[intOf]<;>omega⟩
   obtain rfl:q=m+1:=by omega
   have HX:=hid (hO (by omega));clear hD hO G;go_wp2_with fail
   go_ret2
   exact⟨_,_,rfl,by rw[O];exact(aD.out _ _ _).2 (.inr (.inr ⟨HE.out,⟨aI.out,ag.out⟩,rfl,HX.out⟩)),by rw[O];exact HB.out⟩
end Go.Proofs.YthjoojnlnlmljaaGreat
namespace Go.Proofs.YthjoojnlnlmljaaGreat
open Go.ChangeShapes Go.WideShapes Go.ChangeAt Go.RowKit Go.Joins Go.Shelf Go.Maps
open Go.Lib (hid)
theorem qcO (L:List (List Int)): ∀k,k≤L.length→Qb L k=(L.take k).flatten
 | 0,_=>rfl
 | k+1,h=>by
  have e:QH L k=qC L k:=rfl;rw[jG (by omega),Qb,qcO L k (by omega),e]
theorem qeo (L:List (List Int)):Qb L L.length=L.flatten:=by rw[qcO L _ Nl,List.take_length]
def TreeV.stepZ (t:TreeV)(kz z1 z2 zs:List Int)(leaf k:Nat):Qh:=
 (((t.lvlZ kz z1 z2 (t.leafZ kz z1 z2 zs) k).drop (qx t zs.length leaf (k+1)).frm).take (Qw t.fn (t.rowsOf zs.length) leaf k - (qx t zs.length leaf (k+1)).frm),
  ((t.lvlZ kz z1 z2 (t.leafZ kz z1 z2 zs) k).drop (Qw t.fn (t.rowsOf zs.length) leaf k+1)).take ((qx t zs.length leaf (k+1)).to_ - Qw t.fn (t.rowsOf zs.length) leaf k - 1))
def TreeV.stepsZ (t:TreeV)(kz z1 z2 zs:List Int)(leaf m:Nat):List Qh:=(List.range m).map (t.stepZ kz z1 z2 zs leaf)
theorem zC (t:TreeV)(kz z1 z2 zs:List Int)(leaf:Nat){m k:Nat}(h:k<m):qA (t.stepsZ kz z1 z2 zs leaf m) k=t.stepZ kz z1 z2 zs leaf k:=by
 unfold qA TreeV.stepsZ;rw[Lg,List.getElem?_map,List.getElem?_range h];rfl
theorem QM (t:TreeV)(kz z1 z2 zs:List Int)(leaf m:Nat):(t.stepsZ kz z1 z2 zs leaf m).length=m:=by simp[TreeV.stepsZ]
theorem qiA {X Y:List (List Int)}{a at_ b:Nat}(I:a≤at_)(O:at_<b)(J:b≤Y.length)(h: ∀k,k≠at_→X[k]? =Y[k]?):
  ((X.drop a).take (at_ - a)).flatten++qC Y at_++((X.drop (at_+1)).take (b - at_ - 1)).flatten=((Y.drop a).take (b - a)).flatten:=by
 have G:(X.drop a).take (at_ - a)=(Y.drop a).take (at_ - a):=by
  refine List.ext_getElem? fun j=>?_
  rw[List.getElem?_take,List.getElem?_take];split
  ·rw[List.getElem?_drop,List.getElem?_drop,h _ (by omega)]
  ·rfl
 have D:(X.drop (at_+1)).take (b - at_ - 1)=(Y.drop (at_+1)).take (b - at_ - 1):=by
  refine List.ext_getElem? fun j=>?_
  rw[List.getElem?_take,List.getElem?_take];split
  ·rw[List.getElem?_drop,List.getElem?_drop,h _ (by omega)]
  ·rfl
 have q:(Y.drop a).take (b - a)=(Y.drop a).take (at_ - a)++(qC Y at_::(Y.drop (at_+1)).take (b - at_ - 1)):=by
  have o:b - a=(at_ - a)+(b - at_):=by omega
  have r:b - at_=(b - at_ - 1)+1:=by omega
  rw[o,List.take_add,List.drop_drop,show a+(at_ - a)=at_ by omega,List.drop_eq_getElem_cons (show at_<Y.length by omega),r,List.take_succ_cons];simp only[Nat.add_sub_cancel];congr 2
  unfold qC;rw[Lg,List.getElem?_eq_getElem (by omega)];rfl
 rw[G,D,q,List.flatten_append,List.flatten_cons,List.append_assoc]
theorem qcF {t:TreeV}(h:t.validE=0)(hl:0≤t.l∧t.l≤4294967295)(kz z1 z2 zs o:List Int)(ax:o.length=zs.length)(hn:zs.length≤4194304){leaf:Nat}(G:leaf<nth (t.rowsOf zs.length) 0)
  (hs: ∀k,k≠leaf→qC (QC t.ln o) k=qC (QC t.ln zs) k) (m:Nat) (hm:(t.rowsOf zs.length).length=m+1): ∀r,r<(t.rowsOf zs.length).length→
  (t.lvlZ kz z1 z2 (t.leafZ kz z1 z2 o) r).length=(t.lvlZ kz z1 z2 (t.leafZ kz z1 z2 zs) r).length∧
  (∀k,k≠Qw t.fn (t.rowsOf zs.length) leaf r→(t.lvlZ kz z1 z2 (t.leafZ kz z1 z2 zs) r)[k]? =(t.lvlZ kz z1 z2 (t.leafZ kz z1 z2 o) r)[k]?)∧
  t.pathR kz z1 z2 zs.length leaf (t.stepsZ kz z1 z2 zs leaf m) (qC (QC t.ln o) leaf) r=qC (t.lvlZ kz z1 z2 (t.leafZ kz z1 z2 o) r) (Qw t.fn (t.rowsOf zs.length) leaf r):=by
 have he:=yH h hn;have U:=qF he;have an:=Qc h hl kz z1 z2 zs;have V:=Qc h hl kz z1 z2 o;have af:1≤t.ln:=by
  have:=(qn h).2.2.2.2.2.2.2.2.1
  unfold TreeV.ln;omega
 have ac:=zv o af;have am:=zv zs af;have aw:=Yg h hl kz z1 z2 zs;have ab:=Yg h hl kz z1 z2 o;rw[ax]at ac ab;have ae: ∀{L M:List (List Int)},L.length=M.length→ ∀{i:Nat},qC L i=qC M i→L[i]? =M[i]? :=by
  intro L M aC i hi;by_cases Z:i<L.length
  ·unfold qC at hi;rw[Lg,Lg,List.getElem?_eq_getElem Z,List.getElem?_eq_getElem (by omega)]at hi;rw[List.getElem?_eq_getElem Z,List.getElem?_eq_getElem (by omega)];exact congrArg some hi
  ·rw[List.getElem?_eq_none (by omega),List.getElem?_eq_none (by omega)]
 intro r;induction r with
 | zero=>
  intro hr;refine⟨by show(t.leafZ kz z1 z2 o).length=(t.leafZ kz z1 z2 zs).length;omega,fun k hk=>?_,?_⟩
  ·refine ae (by show(t.leafZ kz z1 z2 zs).length=(t.leafZ kz z1 z2 o).length;omega) ?_;show qC (t.leafZ kz z1 z2 zs) k=qC (t.leafZ kz z1 z2 o) k
   unfold TreeV.leafZ;by_cases Z:k<(QC t.ln zs).length
   ·rw[yI _ _ _ _ _ _ _ Z,yI _ _ _ _ _ _ _ (by omega),hs k hk,ac,am]
   ·unfold qC;rw[Lg,Lg,List.getElem?_eq_none (by rw[TreeV.rowZ_length];omega),List.getElem?_eq_none (by rw[TreeV.rowZ_length];omega)]
  ·show t.giveZ kz z1 z2 (qx t zs.length leaf 0) (qC (QC t.ln o) leaf)=qC (t.leafZ kz z1 z2 o) leaf
   have au:=G;rw[U.first]at au;unfold TreeV.leafZ;rw[yI _ _ _ _ _ _ _ (by omega),ac];unfold qx Qw TreeV.giveZ;have ag: ¬(1≤0∧nth (t.rowsOf zs.length) 0=1):=by omega
   by_cases h2:leaf=nth (t.rowsOf zs.length) 0 - 1
   ·rw[Yl ag h2];rw[U.first]at h2;rw[decide_eq_true (by omega)]
   ·rw[YI ag h2];rw[U.first]at h2;rw[decide_eq_false (by omega)]
 | succ r ih=>
  intro hr;obtain⟨i1,i2,i3⟩:=ih (by omega);have hA:=yU U G (r+1) hr;have ah:=qaC U hr (yU U G r (by omega));have az:=QK he kz z1 z2 aw an.2.2;have ao:=QK he kz z1 z2 ab V.2.2;obtain⟨J,q⟩:=Ex (t.lvlZ kz z1 z2 (t.leafZ kz z1 z2 o) r);obtain⟨Lz,S⟩:=Ex (t.lvlZ kz z1 z2 (t.leafZ kz z1 z2 zs) r);have Y:=ao r (by omega);have X:=Y0 h (row:=r+1) (by omega) (L:=J) (by rw[←q];exact(Qo h kz z1 z2 V.1 V.2.2 r).1);have ak:=U.next r hr;rw[q]at Y;rw[Y,←ak]at X;obtain⟨D,hD⟩:=Ex (t.upZ (r+1) J);rw[hD]at X;have ai:t.stepZ kz z1 z2 zs leaf r=((Lz.drop (qx t zs.length leaf (r+1)).frm).take (Qw t.fn (t.rowsOf zs.length) leaf r - (qx t zs.length leaf (r+1)).frm),(Lz.drop (Qw t.fn (t.rowsOf zs.length) leaf r+1)).take ((qx t zs.length leaf (r+1)).to_ - Qw t.fn (t.rowsOf zs.length) leaf r - 1)):=by unfold TreeV.stepZ;rw[S]
  rw[q,S]at i1 i2;rw[q]at i3;have ey:t.lvlZ kz z1 z2 (t.leafZ kz z1 z2 o) (r+1)=t.rowZ kz z1 z2 (r+1) (t.rootZ (r+1) J.length) D D.length:=by
   show t.rowZ kz z1 z2 (r+1) (t.rootZ (r+1) (t.lvlZ kz z1 z2 (t.leafZ kz z1 z2 o) r).length) (t.upZ (r+1) (t.lvlZ kz z1 z2 (t.leafZ kz z1 z2 o) r)) (t.upZ (r+1) (t.lvlZ kz z1 z2 (t.leafZ kz z1 z2 o) r)).length=_
   rw[q,hD]
  have ez:t.lvlZ kz z1 z2 (t.leafZ kz z1 z2 zs) (r+1)=t.rowZ kz z1 z2 (r+1) (t.rootZ (r+1) J.length) (t.upZ (r+1) Lz) (t.upZ (r+1) Lz).length:=by
   show t.rowZ kz z1 z2 (r+1) (t.rootZ (r+1) (t.lvlZ kz z1 z2 (t.leafZ kz z1 z2 zs) r).length) (t.upZ (r+1) (t.lvlZ kz z1 z2 (t.leafZ kz z1 z2 zs) r)) (t.upZ (r+1) (t.lvlZ kz z1 z2 (t.leafZ kz z1 z2 zs) r)).length=_
   rw[S,i1]
  have aa:(t.upZ (r+1) Lz).length=D.length:=by
   rw[←hD];unfold TreeV.upZ;rw[i1];split
   ·rw[List.length_singleton,List.length_singleton]
   ·rw[Qm,Qm]
  have aq: ∀k,k≠Qw t.fn (t.rowsOf zs.length) leaf (r+1)→qC (t.upZ (r+1) Lz) k=qC D k:=by
   intro k hk;rw[←hD];have ad:k≠if nth (t.rowsOf zs.length) (r+1)=1 then 0 else Qw t.fn (t.rowsOf zs.length) leaf r/t.fn:=hk
   unfold TreeV.upZ;rw[←i1];by_cases I:t.rootZ (r+1) J.length=true
   ·rw[if_pos I,if_pos I];rw[Y]at I;rw[if_pos (X.2.1 I)]at ad;unfold qC;rw[Lg,Lg,List.getElem?_eq_none (by simp;omega),List.getElem?_eq_none (by simp;omega)]
   ·rw[if_neg I,if_neg I];have al:t.rootZ (r+1) J.length=false:=by simpa using I
    have aA:=zN h al;rw[Y]at I;rw[if_neg (fun e=>I (X.2.2 e))]at ad;by_cases aj:k<qP J.length t.fn
    ·simp only[qC,ZA,Lg,List.getElem?_map,List.getElem?_range aj,Option.map_some,Option.getD_some];congr 1
     refine List.ext_getElem? fun j=>?_
     unfold piece;rw[List.getElem?_take,List.getElem?_take];split
     ·rename_i hj;rw[List.getElem?_drop,List.getElem?_drop];refine i2 _ fun e=>ad ?_
      rw[←e,Nat.mul_comm,Nat.mul_add_div (by omega),Nat.div_eq_of_lt hj];omega
     ·rfl
    ·unfold qC;rw[Lg,Lg,List.getElem?_eq_none (by rw[Qm];omega),List.getElem?_eq_none (by rw[Qm];omega)]
  refine⟨by rw[ey,ez,TreeV.rowZ_length,TreeV.rowZ_length,aa],fun k hk=>?_,?_⟩
  ·rw[ey,ez];refine ae (by rw[TreeV.rowZ_length,TreeV.rowZ_length,aa]) ?_;by_cases Z:k<D.length
   ·rw[yI _ _ _ _ _ _ _ (by omega),yI _ _ _ _ _ _ _ Z,aq k hk,aa]
   ·unfold qC;rw[Lg,Lg,List.getElem?_eq_none (by rw[TreeV.rowZ_length];omega),List.getElem?_eq_none (by rw[TreeV.rowZ_length];omega)]
  ·have hi:Qw t.fn (t.rowsOf zs.length) leaf (r+1)<D.length:=by omega
   obtain⟨-,a,b,ap,aB,av,ar⟩:=qcY he kz z1 z2 ab V.2.2 hr q hD hi;have ay:qx t zs.length leaf (r+1)=⟨r+1,Qw t.fn (t.rowsOf zs.length) leaf (r+1),a,b,decide (Qw t.fn (t.rowsOf zs.length) leaf (r+1)+1=D.length),t.rootZ (r+1) J.length⟩:=ap;have O:(qx t zs.length leaf (r+1)).frm≤Qw t.fn (t.rowsOf zs.length) leaf r∧Qw t.fn (t.rowsOf zs.length) leaf r<(qx t zs.length leaf (r+1)).to_:=⟨ah.2.1,ah.2.2⟩;show t.giveZ kz z1 z2 (qx t zs.length leaf (r+1)) (qf5 (qA (t.stepsZ kz z1 z2 zs leaf m) r) (t.pathR kz z1 z2 zs.length leaf (t.stepsZ kz z1 z2 zs leaf m) (qC (QC t.ln o) leaf) r))=_
   rw[i3,zC _ _ _ _ _ _ (by omega),ai,ey,yI _ _ _ _ _ _ _ hi];rw[ay]at O⊢;unfold qf5;rw[qeo,qeo,qiA O.1 O.2 av i2,←ar];rfl
theorem qbh {t:TreeV}(h:t.validE=0)(O:0≤t.l∧t.l≤4294967295)(kz z1 z2 zs q:List Int)(r:q.length=zs.length)(J:zs.length≤4194304){leaf:Nat}(o:leaf<nth (t.rowsOf zs.length) 0)
  (X: ∀k,k≠leaf→qC (QC t.ln q) k=qC (QC t.ln zs) k) (m:Nat) (G:(t.rowsOf zs.length).length - 1=m):
  t.pathR kz z1 z2 zs.length leaf (t.stepsZ kz z1 z2 zs leaf m) (qC (QC t.ln q) leaf) m=t.digZ kz z1 z2 q:=by
 have V:=yH h J;have D:=qF V;have U:=D.len;have S:=qcF h O kz z1 z2 zs q r J o X m (by omega) m (by omega);rw[S.2.2];unfold TreeV.digZ;rw[if_pos h,r,G];have Y:=yU D o m (by omega);have I:=D.last;rw[G]at I;rw[show Qw t.fn (t.rowsOf zs.length) leaf m=0 by omega]
end Go.Proofs.YthjoojnlnlmljaaGreat
namespace Go.Proofs.YthjoojnlnlmljaaGreat
open Go.ChangeShapes Go.WideShapes Go.ChangeAt Go.RowKit Go.Joins Go.Shelf Go.Maps
open Go.Lib (hid)
attribute [local go_sem] Oper.semAt_some
theorem qcg {t:TreeV}(h:t.validE=0)(kz z1 z2 zs:List Int){k:Nat}(r:k<(t.rowsOf zs.length).length):(t.rowsZ kz z1 z2 zs).getD k []=t.lvlZ kz z1 z2 (t.leafZ kz z1 z2 zs) k∧k<(t.rowsZ kz z1 z2 zs).length:=by
 unfold TreeV.rowsZ;rw[if_pos h];have o:k<(t.allC kz z1 z2 zs ((t.rowsOf zs.length).length - 1+1)).length:=by rw[TreeV.allC_length];omega
 refine⟨?_,by rw[List.length_map];exact o⟩;have q:=qcG t kz z1 z2 zs (m:=(t.rowsOf zs.length).length - 1+1) (i:=k) (by omega);rw[Lg,List.getElem?_eq_getElem o,Option.getD_some]at q;rw[Lg,List.getElem?_map,List.getElem?_eq_getElem o,Option.map_some,Option.getD_some,q,TreeV.lvl_is];unfold TreeV.callsR TreeV.rowC TreeV.rowZ;rw[List.map_map];rfl
def TreeV.llZ (t:TreeV)(kz z1 z2 zs:List Int)(leaf:Nat):Nat→List (List (List Int))
 | 0=>[]
 | k+1=>t.llZ kz z1 z2 zs leaf k++[(t.stepZ kz z1 z2 zs leaf k).1]++[(t.stepZ kz z1 z2 zs leaf k).2]
theorem TreeV.llZ_length (t:TreeV)(kz z1 z2 zs:List Int)(leaf:Nat): ∀k,(t.llZ kz z1 z2 zs leaf k).length=k*2
 | 0=>rfl
 | k+1=>by simp[TreeV.llZ,TreeV.llZ_length t kz z1 z2 zs leaf k];omega
theorem J7 (t:TreeV)(kz z1 z2 zs:List Int)(leaf:Nat): ∀m k,k<m→(t.llZ kz z1 z2 zs leaf m).getD (k*2) []=(t.stepZ kz z1 z2 zs leaf k).1∧(t.llZ kz z1 z2 zs leaf m).getD (k*2+1) []=(t.stepZ kz z1 z2 zs leaf k).2
 | m+1,k,h=>by
  have o:=TreeV.llZ_length t kz z1 z2 zs leaf m;show((t.llZ kz z1 z2 zs leaf m++[_])++[_]).getD _ _=_∧((t.llZ kz z1 z2 zs leaf m++[_])++[_]).getD _ _=_
  rw[qX,qX,qX,qX];simp only[List.length_append,List.length_singleton,o];by_cases q:k=m
  ·subst q;rw[if_pos (by omega),if_neg (by omega),if_pos rfl,if_neg (by omega),if_pos rfl];exact⟨rfl,rfl⟩
  ·rw[if_pos (by omega),if_pos (by omega),if_pos (by omega),if_pos (by omega)];exact J7 t kz z1 z2 zs leaf m k (by omega)
theorem Z5 {α:Type}(X:List α)(p q r d:α){n:Nat}(h:X.length=n):(X++[p]++[q]).getD n d=p∧(X++[p]++[q]).getD (n+1) d=q∧(X++[p]++[q]).set n r=X++[r]++[q]∧(X++[p]++[q]).set (n+1) r=X++[p]++[r]:=by
 subst h;refine⟨?_,?_,?_,?_⟩
 ·rw[qX,if_pos (by simp),qX,if_neg (by omega),if_pos rfl]
 ·rw[qX,if_neg (by simp),if_pos (by simp)]
 ·rw[List.append_assoc,List.set_append_right _ _ Nl,Nat.sub_self];simp
 ·rw[List.append_assoc,List.set_append_right _ _ (by omega),Nat.add_sub_cancel_left];simp
theorem qcJ {L:List (List Int)}{f j:Nat}(h:f+j<L.length):(L.drop f).take (j+1)=(L.drop f).take j++[qC L (f+j)]:=by
 have e:qC L (f+j)=qC (L.drop f) j:=(qaq L f j).symm;rw[List.take_add_one,List.getElem?_drop,List.getElem?_eq_getElem h];unfold qC;rw[Lg,List.getElem?_eq_getElem h];rfl
theorem qiq (t:TreeV)(kz z1 z2 zs:List Int)(leaf:Nat)(dy:(leaf:Int)≤18446744073709551615)(v:Value)(w:World)(h:TreeOk t kz z1 z2 w)(hv:Hold w v zs)(hn:zs.length≤4194304)(he:t.spotE zs.length 0 leaf=0):
  Calls Tryz.prog 28 #[t.val,v,.int .u64 leaf] w fun r w'=> ∃u xs DS,r= .returned (.tuple #[QZ zs.length leaf u,.int .i64 0])∧(w'.ownsRow w.heap.size 69 2 u ((t.rowsOf zs.length).length - 1) xs∧ListsV w.heap.size w' xs (t.llZ kz z1 z2 zs leaf ((t.rowsOf zs.length).length - 1)) DS)∧Below w.heap.size w w':=by
 obtain⟨b0,an⟩:=Ex w.heap.size;obtain⟨i8,di,cN,cK,cF⟩:=info_parts Ql;obtain⟨iS,du,dw,cT,dr⟩:=info_parts qc7;have ht:(zs.length:Int)≤18446744073709551615:=by omega
 have br:=yH h.v hn;have F:=Y4 h.l ht he;obtain⟨cg,dk,i1,i2,ck⟩:=zi h.l ht he;have hR:=qF br;have hL:=Qc h.v h.l kz z1 z2 zs;have ct:=QK br kz z1 z2 (Yg h.v h.l kz z1 z2 zs) hL.2.2;obtain⟨m,hm⟩:=Ex ((t.rowsOf zs.length).length - 1);have dK:1≤m:=by have:=F.two;omega
 have dP:m≤255:=by have:=F.most;omega
 have c7:(t.rowsOf zs.length).length=m+1:=by have:=F.two;omega
 have aU:=zQ t h.l zs.length ht leaf he;rw[hm]at aU;have HW:=hid aU;have aD:=hid (fun(W:World) (hb:Below b0 w W)=>qh8 t kz z1 z2 zs v W h.l (h.k.below (an▸hb)) (h.s.below (an▸hb)) (h.p.below (an▸hb)) (hv.below (an▸hb)) hn);have bC: ∀k,k<m→ ∃f c d:Nat,(qx t zs.length leaf (k+1)).frm=f∧(qx t zs.length leaf (k+1)).to_=d∧chI t zs.length leaf k=(c:Nat)∧f+c<d∧d≤(t.lvlZ kz z1 z2 (t.leafZ kz z1 z2 zs) k).length∧(t.lvlZ kz z1 z2 (t.leafZ kz z1 z2 zs) k).length≤4194305∧(t.rowsZ kz z1 z2 zs).getD k []=t.lvlZ kz z1 z2 (t.leafZ kz z1 z2 zs) k∧k<(t.rowsZ kz z1 z2 zs).length∧(∀j,(qC (t.lvlZ kz z1 z2 (t.leafZ kz z1 z2 zs) k) j).length≤64)∧
   t.stepZ kz z1 z2 zs leaf k=(((t.lvlZ kz z1 z2 (t.leafZ kz z1 z2 zs) k).drop f).take c,((t.lvlZ kz z1 z2 (t.leafZ kz z1 z2 zs) k).drop (f+c+1)).take (d - (f+c) - 1)):=fun k hk=>by
  have hK:=cg k (by omega);have bd:=qd2 hK;have dd:=zH (l:=t.ln) (by have:=(qn h.v).2.2.2.2.2.2.2.2.1;have:=h.l;unfold TreeV.ln;omega) hR (k:=k+1) (by omega) (by omega) (yU hR (Zz h.l he).2.2.2 (k+1) (by omega));have df:=ct k (by omega);have hF:=Qo h.v kz z1 z2 hL.1 hL.2.2 k;have e1:=hK.le;have e2:=hK.lt;have aK:=qcg h.v kz z1 z2 zs (k:=k) (by omega);refine⟨_,chN t zs.length leaf k,_,rfl,rfl,bd,?_,?_,by have:=hL.2.1;omega,aK.1,aK.2,fun j=>?_,?_⟩
  ·unfold chN;omega
  ·rw[df];exact dd
  ·unfold qC;rw[Lg]
   cases e:(t.lvlZ kz z1 z2 (t.leafZ kz z1 z2 zs) k)[j]? with
   | none=>simp
   | some z=>exact hF.2.2 z (List.mem_of_getElem? e)
  ·unfold TreeV.stepZ chN;rw[show(qx t zs.length leaf (k+1)).frm+(Qw t.fn (t.rowsOf zs.length) leaf k - (qx t zs.length leaf (k+1)).frm)=Qw t.fn (t.rowsOf zs.length) leaf k by omega]
 have cO:=hid bC;have db:Hid (∀k,(qx t zs.length leaf k).row=k):=hid (fun k=>(zI _ _ _ _ _ _).1);have cA:Hid (∀k,t.llZ kz z1 z2 zs leaf (k+1)=t.llZ kz z1 z2 zs leaf k++[(t.stepZ kz z1 z2 zs leaf k).1]++[(t.stepZ kz z1 z2 zs leaf k).2]):=hid (fun k=>rfl);have cL:Hid (t.llZ kz z1 z2 zs leaf 0=[]):=hid rfl;have cI:Hid (∀k,(t.llZ kz z1 z2 zs leaf k).length=k*2):=hid (t.llZ_length kz z1 z2 zs leaf);have dZ:IntKind.u64.wrap (zs.length:Int)=(zs.length:Int):=u64_wrap_id _ (by omega) (by omega);have dS:Hid (t.validE=0):=hid h.v;obtain⟨va,vc,rfl, -, -⟩:=id hv.slice;rw[ck]at aD;rw[hm];clear F cg dk i1 i2 ck hm c7 aU bC hR hL ct br he h hv hn;unfold TreeV.val QZ at*;go_enter Tryz.func28,Tryz.ntmps28
 go_upto_region 1 with(fail)
 refine qm ?_;intro wA bc;have bA:wA.heap[b0]? =some (.cells t.c 26 (0,0)):=by rw[bc];exact(Bh _ _ _ (by simp;omega)).trans (qe _ _ an.symm)
 have bl:wA.heap[b0+1]? =some (.cells #[.int .u64 0,.int .u64 0,.slice none 0 0] 55 (0,0)):=by rw[bc];exact qe _ _ (by simp;omega)
 have b9:Below b0 w wA:=by rw[bc,←an];exact(Br.alloc Nl _).alloc (by simp) _
 have de:b0+1<wA.heap.size:=(Ai bl).1;clear bc;go_wp2_with (refine L26 b0 rfl bA ?_)
 refine(HW.out wA).mono ?_;rintro e w2 ⟨g,dY,rfl,ca,aR⟩;have bh:=qf bA aR;have bK:=hid (qf bl aR);have bg:=hid (b9.trans (aR.mono (show b0≤wA.heap.size by omega)));have bL:=hid ca;have cW:b0+1<w2.heap.size:=by have:=aR.size;omega
 clear ca aR b9 bA bl HW de;clear wA;go_wp2_with (refine L26 b0 rfl bh ?_)
 refine(aD.out w2 bg.out).mono ?_;rintro e w5 ⟨ru,c9,rfl,bi,aL⟩;have cJ:=hid (qf bK.out aL);have cU:=hid (bg.out.trans (aL.mono (show b0≤w2.heap.size by omega)));have bm:=hid (bL.out.below aL);have b8:=hid (bi.le (Nat.zero_le _));obtain⟨ra,rc,rfl,dV⟩:=bi.formP;obtain⟨D,a6⟩:=Ex w5.heap.size;have dR:b0+1<D:=by have:=aL.size;omega
 clear bi aL bL bK bg bh cW aD;clear w2;go_upto_region 9 with(fail)
 refine qm ?_;intro wB bq;have cq:wB.heap[D]? =some (.cells #[.int .u64 zs.length,.int .u64 leaf,.slice none 0 0] 55 (0,0)):=by rw[bq];exact qe _ _ a6.symm
 have bY:Below D w5 wB:=by rw[bq,←a6];exact Br.alloc Nl _
 have az:=hid cq;have cy:=hid bY;clear bq cq bY;go_wp2_with fail
 go_loopw [49] (fun i wr=> ∃(k:Nat) (u:Value) (xs:List Value) (DS:List (List Value)),i= .int .i64 k∧k≤m∧wr.heap[D]? =some (.cells #[.int .u64 zs.length,.int .u64 leaf,u] 55 (0,0))∧wr.ownsRow D 69 2 u k xs∧ListsV D wr xs (t.llZ kz z1 z2 zs leaf k) DS∧Below D w5 wr) (fun i _=>m - (intOf i).toNat)
 case atStart=>exact⟨0,_,[],[],rfl,Nat.zero_le _,az.out,Wo _ _ _ _,by rw[cL.out];exact ListsV.nil _ _,cy.out⟩
 case round=>
  clear az cy;obtain⟨k,u,xs,DS,rfl,hk,ax,aj,ba,hb⟩:=hrel;have dj:D≤wr.heap.size:=by have:=hb.size;omega
  have cB:D<wr.heap.size:=(Ai ax).1;obtain⟨ua,uc,rfl⟩:=Ye aj;by_cases cx:k<m
  case pos=>
   have dB:(k:Int)<(m:Int):=by omega
   obtain⟨f,c,d,hf,hd,bd,d0,a5,dJ,aK,bo,b4,cl⟩:=cO.out k cx;obtain⟨s0,s1,s2,s3,s4,s5,s6⟩:=bm.out.2 k cx;dsimp only at s0 s1 s2 s3 s4 s5 s6;rw[db.out,show((k+1:Nat):Int)=(k:Int)+1 by omega]at s0;rw[hf]at s2;rw[hd]at s3;rw[bd]at s6;have bE:=cA.out k;rw[cl]at bE;have ci:=cI.out k;have aV:=b8.out.2.1 k bo;rw[aK]at aV;obtain⟨gR,cR,e1,dp,cd⟩:=b8.out.getP bo;simp only[Value.slice.injEq,true_and]at e1;obtain⟨rfl,rfl⟩:=e1;generalize t.lvlZ kz z1 z2 (t.leafZ kz z1 z2 zs) k=R at*;generalize c9.getD k undef=X at*;obtain⟨Xa,cX,rfl,dt,aS,cv⟩:=aV.hold;obtain⟨gX,oX,rfl,dq,b5⟩:=cv.resolve_left (fun e=>by rw[e]at a5;simp at a5;omega);have cS:=hid b5;have dg:=hid b4;have cZ:=hid bE;have ar:=hid ci;have aZ:=hid a5;generalize ((qx t zs.length leaf (k+1)).at_:Int)=A at*;generalize (qx t zs.length leaf (k+1)).last=la at*;generalize (qx t zs.length leaf (k+1)).root=ro at*;have dE:g<w5.heap.size:=bm.out.1;have am: ∀o,wr.cell? ⟨g,o,none⟩=w5.cell? ⟨g,o,none⟩:=fun o=>hb.cell (p:=⟨g,o,none⟩) (by show g<D;omega)
   have c0:=(am _).trans s0;have c1:=(am _).trans s1;have c2:=(am _).trans s2;have c3:=(am _).trans s3;have c4:=(am _).trans s4;have c5:=(am _).trans s5;have c6:=(am _).trans s6;have cE:g<wr.heap.size:=by omega
   have ak:=hid aj;have au:=hid ba;have HB:=hid hb;have az:=hid ax;have bs:=hid (qT aj);have dI:(d:Int)≤4194305:=by omega
   have dL:(f:Int)≤d:=by omega
   have dH:(d:Int)≤cX:=by omega
   have dN:(k:Int)<(t.rowsZ kz z1 z2 zs).length:=by omega
   clear s0 s1 s2 s3 s4 s5 s6 am hf hd bd aK cl bE ci aV cv b5 b4 a5 aj ba hb ax dt bo;obtain⟨I,aJ⟩:=Ex wr.heap.size;go_upto_region 13 with(fail)
   refine qm ?_;intro Y hY;have aM:Y.heap[I]? =some (.cells #[.int .i64 ((k:Int)+1),.int .u64 A,.int .u64 f,.int .u64 d,.bool la,.bool ro,.int .u64 c] 127 (0,0)):=by rw[hY];exact(Bh _ _ _ (by simp;omega)).trans (qe _ _ aJ.symm)
   have bf:Y.heap[I+1]? =some (.cells #[.slice none 0 0,.slice none 0 0] 69 (0,0)):=by rw[hY];exact qe _ _ (by simp;omega)
   have bD:Below I wr Y:=by rw[hY,←aJ];exact(Br.alloc Nl _).alloc (by simp) _
   have dh:I+1<Y.heap.size:=(Ai bf).1;have aY:Below D w5 Y:=HB.out.trans (bD.mono (by omega));have co:=hid bD;have cG:=hid aY;have bZ:=hid aM;have cr:=hid bf;have t0:Y.cell? ⟨I,0,none⟩=some (.int .i64 ((k:Int)+1)):=qd aM 0;have t2:Y.cell? ⟨I,2,none⟩=some (.int .u64 f):=qd aM 2;have t3:Y.cell? ⟨I,3,none⟩=some (.int .u64 d):=qd aM 3;have tX:Y.cell? ⟨gR,k,none⟩=some (.slice (some ⟨gX,oX,none⟩) R.length cX):=(aY.cell (p:=⟨gR,k,none⟩) (by show gR<D;omega)).trans cd;have cC:gR<Y.heap.size:=by omega
   have dD:gX<D:=by omega
   clear hY aM bf bD aY c0 c1 c2 c3 c4 c5 c6 cd dp dq cE;go_quiet (fail)
   go_upto_region 14 with(fail)
   refine qm ?_;intro V hV;have bx:Below Y.heap.size Y V:=by rw[hV];exact below_draws _ _ _
   have a9:=hid bx;have dO:I+1<V.heap.size:=by have:=bx.size;omega
   clear hV bx t0 t2 t3 tX cC;have b6:Hid (V.heap[I]? =some (.cells #[.int .i64 ((k:Int)+1),.int .u64 A,.int .u64 f,.int .u64 d,.bool la,.bool ro,.int .u64 c] 127 (0,0))):=hid (qf bZ.out a9.out);have cn:Hid (V.heap[I+1]? =some (.cells #[.slice none 0 0,.slice none 0 0] 69 (0,0))):=hid (qf cr.out a9.out);have aH:Below I wr V:=co.out.trans (a9.out.mono (by omega));have b3:Hid (V.heap[D]? =some (.cells #[.int .u64 zs.length,.int .u64 leaf,.slice ua k uc] 55 (0,0))):=hid (qf az.out (aJ▸aH));have cb:Hid (V.ownsRow D 69 2 (.slice ua k uc) k xs):=hid (Q6 ak.out (fun q J=>aH.block q (by have:=bs.out q J;omega)));have b7:Hid (ListsV D V xs (t.llZ kz z1 z2 zs leaf k) DS):=hid (au.out.below (aJ▸aH));have cz:Hid (Below D w5 V):=hid (HB.out.trans (aH.mono (by omega)));have aF:Hid (∀q,(Value.slice ua k uc).ownBlock=some q→q<I):=hid (fun q J=>by have:=bs.out q J;omega);have bI:=hid (au.out.lx.trans ar.out);have dX:=hid (au.out.ld.trans ar.out);have dz:D<I:=by omega
   clear dh aH co cG bZ cr a9 az ak bs au HB dj cB aJ;clear Y;clear wr;go_wp2_with fail
   go_loopw [69] (fun i wr=> ∃(j:Nat) (bv av:Value) (E:List (List Value)),i= .int .i64 j∧j≤d - f∧wr.heap[I]? =some (.cells #[.int .i64 ((k:Int)+1),.int .u64 A,.int .u64 f,.int .u64 d,.bool la,.bool ro,.int .u64 c] 127 (0,0))∧wr.heap[I+1]? =some (.cells #[bv,av] 69 (0,0))∧wr.heap[D]? =some (.cells #[.int .u64 zs.length,.int .u64 leaf,.slice ua k uc] 55 (0,0))∧wr.ownsRow D 69 2 (.slice ua k uc) k xs∧ListsV D wr (xs++[bv]++[av]) (t.llZ kz z1 z2 zs leaf k++[(R.drop f).take (min j c)]++[(R.drop (f+c+1)).take (j - c - 1)]) E∧Below D w5 wr) (fun i _=>d - f - (intOf i).toNat)
   case atStart=>exact⟨0,_,_,_,rfl,Nat.zero_le _,b6.out,cn.out,b3.out,cb.out,by rw[Nat.zero_min,List.take_zero,Nat.zero_sub,Nat.zero_sub,List.take_zero];exact b7.out.more.more,cz.out⟩
   case round=>
    clear b6 cn b3 cb b7 cz;obtain⟨j,bv,av,E,rfl,hj,be,ap,a7,bN,aN,ao⟩:=hrel;have aS:=bI.out;have aw:(t.llZ kz z1 z2 zs leaf k).length=k*2:=ar.out;have aG:=aN.each (k*2) (by simp[aw]);have aP:=aN.each (k*2+1) (by simp[aw]);rw[(Z5 xs bv av bv undef aS).1,(Z5 _ _ _ [] [] aw).1]at aG;rw[(Z5 xs bv av bv undef aS).2.1,(Z5 _ _ _ [] [] aw).2.1]at aP;obtain⟨Z,aa,ab,rfl⟩:=Q4 aG.1;obtain⟨ac,U,S,rfl⟩:=Q4 aP.1;have dQ:I+1<wr.heap.size:=(Ai ap).1;have g6:wr.cell? ⟨I,6,none⟩=some (.int .u64 c):=qd be 6;have q0:wr.cell? ⟨I+1,0,none⟩=some (.slice Z aa ab):=qd ap 0;have q1:wr.cell? ⟨I+1,1,none⟩=some (.slice ac U S):=qd ap 1;have p2:wr.cell? ⟨D,2,none⟩=some (.slice ua k uc):=qd a7 2;have dv:D<wr.heap.size:=by omega
    have bU:=hid be;have bV:=hid ap;have bb:=hid a7;have aA:=hid bN;have ay:=hid aN;have bG:=hid ao;have ce:=hid aG;have ch:=hid aP;by_cases dW:j<d - f
    case pos=>
     have dG:(j:Int)<(d:Int) - (f:Int):=by omega
     obtain⟨x,hx,cm⟩:=cS.out (f+j) (by have:=aZ.out;omega);have cM:=dg.out (f+j);have bX:wr.cell? ⟨gX,oX+(f+j),none⟩=some x:=(ao.cell (p:=⟨gX,oX+(f+j),none⟩) (by show gX<D;omega)).trans hx;have aE:=(cm.below (a6▸ao));rw[show oX+(f+j)=oX+f+j by omega]at bX;have cp:((R.drop f).take (j+1))=(R.drop f).take j++[qC R (f+j)]:=qcJ (by have:=aZ.out;omega);have bH:c<j→(R.drop (f+c+1)).take (j - c)=(R.drop (f+c+1)).take (j - c - 1)++[qC R (f+j)]:=fun hc=>by
      have:=qcJ (L:=R) (f:=f+c+1) (j:=j - c - 1) (by have:=aZ.out;omega)
      rw[show j - c - 1+1=j - c by omega,show f+c+1+(j - c - 1)=f+j by omega]at this;exact this
     generalize qC R (f+j)=z at*;obtain⟨xa,xc,rfl, -, -⟩:=id aE.slice;have cj:=hid aE.src;have bT:=hid aE.1;have dl:=hid cp;have cH:=hid bH;have cD:gX<wr.heap.size:=by omega
     clear be ap a7 bN aN ao aG aP hx cm aE cp bH aS aw;go_upto_region 18 with(at_builtin;refine qU rfl _ _ _ rfl wr wr.heap.size rfl Br 5 i8 (.int .u8 0) 1 Tryz.underlying24 di cN cK cF rfl (.slice none 0 0) 0 [] rfl (Wo _ _ _ _) _ _ _ rfl cj.out (by unfold maxLen;omega) (by omega) ?_;intro v' w' a8 ag)
     have aC:w'.ownsRow wr.heap.size 5 1 v' z.length (z.map qo):=by simpa using a8
     have bk:OwnB wr.heap.size w' v' z:=⟨bT.out,Q9 aC⟩;obtain⟨da,dn,dc,rfl⟩:=Q4 aC;have bO:=qf bU.out ag;have aB:=qf bV.out ag;have cf:=qf bb.out ag;have aQ:=hid (Q6 aA.out (fun q J=>ag.block q (qT aA.out q J)));have bz:=hid (ay.out.below ag);have bn:=hid (bG.out.trans (ag.mono (by omega)));have bu:=hid (show ∀g,(Value.slice da dn dc).ownBlock=some g→ ∀b i,(dgV E b i).ownBlock≠some g from fun g hg b i e=>by
      have:=(qgM bk g hg).1
      have:=(ay.out.dlt b i g e).2
      omega)
     have bW:=hid (bk.le (show D≤wr.heap.size by omega));have a3:=ce.out.1;have aW:=ch.out.1;have a4:=hid (Q6 a3 (fun q J=>ag.block q (qT a3 q J)));have aX:=hid (Q6 aW (fun q J=>ag.block q (qT aW q J)));have bj:D≤w'.heap.size:=by have:=ag.size;omega
     have dA:I+1<w'.heap.size:=by have:=ag.size;omega
     have n6:w'.cell? ⟨I,6,none⟩=some (.int .u64 c):=qd bO 6;have n0:w'.cell? ⟨I+1,0,none⟩=some (.slice Z aa ab):=qd aB 0;have n1:w'.cell? ⟨I+1,1,none⟩=some (.slice ac U S):=qd aB 1;have bM:=hid bO;have bF:=hid aB;have bJ:=hid cf;have dM:IntKind.u64.wrap (j:Int)=(j:Int):=u64_wrap_id _ (by omega) (by omega);have cQ:((R.drop f).take (min j c)).length≤8388608∧((R.drop (f+c+1)).take (j - c - 1)).length≤8388608:=by simp only[List.length_take];omega
     obtain⟨bQ,bR⟩:=cQ;clear a8 aC bk bO aB cf a3 aW ag bU bV bb aA bG ce ch g6 q0 q1 p2 bX cD ay cj bT cM;by_cases cY:j<c
     case pos=>
      go_wp2_with (at_builtin;refine JG rfl _ _ rfl D (.slice Z aa ab) _ _ (.slice da dn dc) rfl a4.out rfl rfl bQ bj ?_;intro v' af ho hk ae aO;obtain⟨na,nn,nc,rfl⟩:=Q4 ho;have stay: ∀(p:Nat) (cs:Array Value) (T:TypeId),T≠24→w'.heap[p]? =some (.cells cs T (0,0))→af.heap[p]? =some (.cells cs T (0,0)):=(fun p cs T hT hp=>(ae.block p (Ai hp).1 (fun e=>Yn a4.out hp hT p e rfl)).trans hp);have G:=stay _ _ _ (by decide) bF.out;have n0:af.cell? ⟨I+1,0,none⟩=some (.slice Z aa ab):=qd G 0;obtain⟨-,fz⟩:=yB G;have bS:I+1<af.heap.size:=(Ai G).1;have ai:=hid stay;have aq:=hid ho;have al:=hid hk;have ah:=hid ae;have aT:=hid aO;have ad:=hid G;clear ho hk ae aO stay G)
      have O:=(But.refl (I+1) af).set 0 (.slice na nn nc);have a1:=Z5 xs (.slice Z aa ab) (.slice ac U S) (.slice na nn nc) undef bI.out;have a2:=Z5 (t.llZ kz z1 z2 zs leaf k) ((R.drop f).take (min j c)) ((R.drop (f+c+1)).take (j - c - 1)) (((R.drop f).take (min j c))++[z]) [] ar.out;have hP:=ListsV.put (v':= .slice na nn nc) (x:= .slice da dn dc) (z:=z) (a:=(k*2)) bz.out (by simp[ar.out]) (by rw[a2.1];exact aq.out) bW.out al.out (by rw[a1.1];exact ah.out) (by rw[a1.1];exact aT.out) bu.out;rw[a1.2.2.1,a2.1,a2.2.2.1]at hP;have e9:(R.drop f).take (min j c)++[z]=(R.drop f).take (min (j+1) c):=by rw[Nat.min_eq_left (by omega),Nat.min_eq_left (by omega),dl.out]
      rw[e9,show j - c - 1=j+1 - c - 1 by omega]at hP;have aI:(af.setCell ⟨I+1,0,none⟩ (.slice na nn nc)).ownsRow D 69 2 (.slice ua k uc) k xs:=Q6 (Q6 aQ.out (Ym a4.out aQ.out (by decide) ah.out)) (fun q J=>O.block q (by have:=aF.out q J;omega) (by have:=aF.out q J;omega));exact⟨⟨j+1,.slice na nn nc,.slice ac U S,_,by go_num,by omega,(O.block I (by omega) (by omega)).trans (ai.out _ _ _ (by decide) bM.out),block_setCell ad.out _,(O.block D (by omega) (by omega)).trans (ai.out _ _ _ (by decide) bJ.out),aI,hP.off ad.out (by decide) (by decide) O,(bn.out.trans al.out.below).setCell (by show D≤I+1;omega) _⟩,by simp[intOf];omega⟩
     have dF:(j<c)=False:=eq_false cY;by_cases c8:c<j
     case pos=>
      go_wp2_with (at_builtin;refine JG rfl _ _ rfl D (.slice ac U S) _ _ (.slice da dn dc) rfl aX.out rfl rfl bR bj ?_;intro v' af ho hk ae aO;obtain⟨na,nn,nc,rfl⟩:=Q4 ho;have stay: ∀(p:Nat) (cs:Array Value) (T:TypeId),T≠24→w'.heap[p]? =some (.cells cs T (0,0))→af.heap[p]? =some (.cells cs T (0,0)):=(fun p cs T hT hp=>(ae.block p (Ai hp).1 (fun e=>Yn aX.out hp hT p e rfl)).trans hp);have G:=stay _ _ _ (by decide) bF.out;have n0:af.cell? ⟨I+1,1,none⟩=some (.slice ac U S):=qd G 1;obtain⟨-,fz⟩:=yB G;have bS:I+1<af.heap.size:=(Ai G).1;have ai:=hid stay;have aq:=hid ho;have al:=hid hk;have ah:=hid ae;have aT:=hid aO;have ad:=hid G;clear ho hk ae aO stay G)
      have O:=(But.refl (I+1) af).set 1 (.slice na nn nc);have a1:=Z5 xs (.slice Z aa ab) (.slice ac U S) (.slice na nn nc) undef bI.out;have a2:=Z5 (t.llZ kz z1 z2 zs leaf k) ((R.drop f).take (min j c)) ((R.drop (f+c+1)).take (j - c - 1)) (((R.drop (f+c+1)).take (j - c - 1))++[z]) [] ar.out;have hP:=ListsV.put (v':= .slice na nn nc) (x:= .slice da dn dc) (z:=z) (a:=(k*2+1)) bz.out (by simp[ar.out]) (by rw[a2.2.1];exact aq.out) bW.out al.out (by rw[a1.2.1];exact ah.out) (by rw[a1.2.1];exact aT.out) bu.out;rw[a1.2.2.2,a2.2.1,a2.2.2.2]at hP;have e9:(R.drop (f+c+1)).take (j - c - 1)++[z]=(R.drop (f+c+1)).take (j+1 - c - 1):=by rw[show j+1 - c - 1=j - c by omega,cH.out (by omega)]
      rw[e9,show min j c=min (j+1) c by omega]at hP;have aI:(af.setCell ⟨I+1,1,none⟩ (.slice na nn nc)).ownsRow D 69 2 (.slice ua k uc) k xs:=Q6 (Q6 aQ.out (Ym aX.out aQ.out (by decide) ah.out)) (fun q J=>O.block q (by have:=aF.out q J;omega) (by have:=aF.out q J;omega));exact⟨⟨j+1,.slice Z aa ab,.slice na nn nc,_,by go_num,by omega,(O.block I (by omega) (by omega)).trans (ai.out _ _ _ (by decide) bM.out),block_setCell ad.out _,(O.block D (by omega) (by omega)).trans (ai.out _ _ _ (by decide) bJ.out),aI,hP.off ad.out (by decide) (by decide) O,(bn.out.trans al.out.below).setCell (by show D≤I+1;omega) _⟩,by simp[intOf];omega⟩
     have dC:(c<j)=False:=eq_false c8;obtain rfl:j=c:=by omega
     go_wp2_with fail
     refine⟨⟨j+1,_,_,E,by go_num,by omega,bM.out,bF.out,bJ.out,aQ.out,?_,bn.out⟩,by simp[intOf];omega⟩;have J:=bz.out;rw[show min j j=min (j+1) j by omega,show j - j - 1=j+1 - j - 1 by omega]at J;exact J
    obtain rfl:j=d - f:=by omega
    have dT:(Value.slice Z aa ab).oneCell'=true∧(Value.slice ac U S).oneCell'=true:=⟨rfl,rfl⟩;clear be ap a7 bN aN ao aG aP aS aw;have dU:(k:Int)+1≤256:=by omega
    have bP:D≤wr.heap.size:=by omega
    go_wp2_with (at_builtin;refine QN rfl _ _ _ rfl D 69 (by decide) iS _ 2 48 Tryz.underlying53 du dw cT dr rfl (by decide) (.slice ua k uc) k xs [.slice Z aa ab,.slice ac U S] _ rfl aA.out rfl rfl (by simp[Value.oneCell']) (by unfold maxLen;omega) (by omega) bP ?_;intro v' w' ho hk ae;obtain⟨na,nn,nc,rfl⟩:=Q4 ho;have G:w'.heap[D]? =some (.cells #[.int .u64 zs.length,.int .u64 leaf,.slice ua k uc] 55 (0,0)):=(ae.block D dv (fun e=>Yn aA.out bb.out (by decide) D e rfl)).trans bb.out;have n2:w'.cell? ⟨D,2,none⟩=some (.slice ua k uc):=qd G 2;obtain⟨-,fz⟩:=yB G;have bS:D<w'.heap.size:=(Ai G).1;have aq:=hid ho;have al:=hid hk;have ah:=hid ae;have ad:=hid G;clear ho hk ae G)
    have O:=(But.refl D w').set 2 (.slice na nn nc);have dm:ListsV D w' (xs++[.slice Z aa ab]++[.slice ac U S]) _ E:=ay.out.keep al.out (fun a q J=>ah.out.block q (ay.out.xlt a q J).2 (fun e=>by
     obtain⟨cc,dx⟩:=YR aA.out q e;exact ay.out.xoff dx (by decide) a q J rfl))
    have cu:=dm.off ad.out (by decide) (by decide) O;rw[show min (d - f) c=c by omega,show d - f - c - 1=d - (f+c) - 1 by omega,←cZ.out]at cu;have aI:(w'.setCell ⟨D,2,none⟩ (.slice na nn nc)).ownsRow D 69 2 (.slice na nn nc) (k+1) (xs++[.slice Z aa ab]++[.slice ac U S]):=by
     have e:xs++[Value.slice Z aa ab]++[.slice ac U S]=xs++[.slice Z aa ab,.slice ac U S]:=by simp
     rw[e];exact Q6 aq.out (fun q J=>O.block q (qT aq.out q J) (fun e=>Yn aq.out ad.out (by decide) q J e))
    exact⟨⟨k+1,_,_,E,by go_num,by omega,block_setCell ad.out _,aI,cu,(bG.out.trans al.out.below).setCell Nl _⟩,by simp[intOf];omega⟩
  obtain rfl:m=k:=by omega
  have ak:=hid aj;have au:=hid ba;have az:=hid ax;have bt:=qf cJ.out (a6▸hb);have cV:=hid (cU.out.trans (hb.mono (show b0≤D by omega)));obtain⟨cR,fR⟩:=yB bt;obtain⟨cP,fP⟩:=yB ax;have ap:b0+1<wr.heap.size:=by omega
  have cw:=hid bt;clear aj ba ax bt hb;go_wp2_with fail
  have O:=((((But.refl (b0+1) wr).set 0 (.int .u64 zs.length)).set 1 (.int .u64 leaf)).set 2 (.slice ua m uc));exact Bp (qH rfl _ _ _ _ _ _ _ rfl (Yi cw.out _ _ _) Tryz.underlying55 rfl (by kernel_rfl)) rfl ⟨_,xs,DS,rfl,by rw[an];exact⟨ownsRow_le (Q6 ak.out (fun q J=>O.block q (qT ak.out q J) (by have:=Yo ak.out q J;omega))) (by omega),(au.out.off cw.out (by decide) (by decide) O).le (by omega)⟩,by rw[an];exact Yj cV.out (by omega) _ _ _⟩
end Go.Proofs.YthjoojnlnlmljaaGreat
