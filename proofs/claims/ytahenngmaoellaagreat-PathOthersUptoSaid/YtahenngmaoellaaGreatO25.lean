/- Lemmas. No condition. -/
import Derived.Test.YtahenngmaoellaaGreatP01
import Derived.Test.YtahenngmaoellaaGreatO23
import Derived.Test.YtahenngmaoellaaGreatO24
set_option linter.all false
set_option maxRecDepth 100000
set_option maxHeartbeats 0
namespace Go.Proofs.YtahenngmaoellaaGreat
open Go.ChangeShapes Go.WideShapes Go.ChangeAt Go.RowKit Go.Joins Go.Shelf Go.Maps
open Go.Lib (hid)
variable{W W':World}{b B n at_:Nat}{zs:List Int}
attribute [local go_sem] Oper.semAt_some
theorem qf {p:Nat}{o:Obj}(h:W.heap[p]? =some o)(q:Below W.heap.size W W'):W'.heap[p]? =some o:=(q.block p (Ai h).1).trans h
theorem YV {off:Nat}(h:Qy W b off zs)(q:W.heap.size<=B)(o:Below B W W'):Qy W' b off zs:=
 ⟨Nat.lt_of_lt_of_le h.1 o.size,fun i hi=>(o.cell (p:=⟨b,off+i,none⟩) (Nat.lt_of_lt_of_le h.1 q)).trans (h.2 i hi)⟩
theorem qr {e:TypeId}{v:Value}{xs:List Value}(h:W.ownsRow B e 1 v n xs): ∃a m c,v= .slice a m c:=by
 rcases h.2 with⟨rfl, -⟩|⟨g,q,o,rfl, -⟩
 ·exact⟨_,_,_,rfl⟩
 ·exact⟨_,_,_,rfl⟩
def xoZ (big ext:Bool)(zs:List Int):Int:=cond ext (qO zs 12 (szB big 7)) 0
theorem qb9 {i:Nat}(h:i<n):qo ((zs.drop at_).take n) i=qo zs (at_+i):=by
 unfold qo;simp[Lg,List.getElem?_take,h,List.getElem?_drop]
theorem QC (h:at_+n<=zs.length):((zs.drop at_).take n).length=n:=by simp;omega
theorem zG {off:Nat}(h:Qy W b off zs)(o:at_+n<=zs.length):Qy W b (off+at_) ((zs.drop at_).take n):=
 ⟨h.1,fun i hi=>by
  rw[QC o]at hi;rw[qb9 hi,Nat.add_assoc];exact h.2 _ (by omega)⟩
theorem qdg (Z U X Y lf J S V I:Int)(G o:List Int)(b1 o1 c1 b2 o2 c2:Nat)(w:World)(h1:Qy w b1 o1 G)(h2:Qy w b2 o2 o)(ax:G.length<=c1)(ay:o.length<=c2)(az:G.length<=4294967296)(au:o.length<=4294967296):
  Calls Tryz.prog 138 #[parV Z U X Y lf J S V I (.slice (some ⟨b1,o1,none⟩) G.length c1) (.slice (some ⟨b2,o2,none⟩) o.length c2)] w fun e w'=> ∃sa pe,e= .returned (parV Z U X Y lf J S V I sa pe)/\
   w'.ownsRow w.heap.size 5 1 sa (Qp G G.length) ((G.take (Qp G G.length)).map qp)/\w'.ownsRow w.heap.size 5 1 pe (Qp o o.length) ((o.take (Qp o o.length)).map qp)/\Below w.heap.size w w':=by
 obtain⟨q,ae⟩:=Ex w.heap.size;unfold parV;obtain⟨S1,aA⟩: ∃v:Value,v= .slice (some ⟨b1,o1,none⟩) G.length c1:=⟨_,rfl⟩;obtain⟨S2,av⟩: ∃v:Value,v= .slice (some ⟨b2,o2,none⟩) o.length c2:=⟨_,rfl⟩;have H1:=hid h1;have H2:=hid h2;clear h1 h2;clear aA av S1 S2;have ag:Below q w ((w.alloc (.cells #[.int .i64 Z,.int .i64 U,.int .i64 X,.int .i64 Y,.int .u32 lf,.int .u64 J,.int .u32 S,.int .i64 V,.int .i64 I,.slice (some ⟨b1,o1,none⟩) G.length c1,.slice (some ⟨b2,o2,none⟩) o.length c2] 179)).alloc (.cells Kb 179)):=by rw[<-ae];exact(Br.alloc Nl _).alloc (by simp) _
 have ai:((w.alloc (.cells #[.int .i64 Z,.int .i64 U,.int .i64 X,.int .i64 Y,.int .u32 lf,.int .u64 J,.int .u32 S,.int .i64 V,.int .i64 I,.slice (some ⟨b1,o1,none⟩) G.length c1,.slice (some ⟨b2,o2,none⟩) o.length c2] 179)).alloc (.cells Kb 179)).heap[q]? =some (.cells #[.int .i64 Z,.int .i64 U,.int .i64 X,.int .i64 Y,.int .u32 lf,.int .u64 J,.int .u32 S,.int .i64 V,.int .i64 I,.slice (some ⟨b1,o1,none⟩) G.length c1,.slice (some ⟨b2,o2,none⟩) o.length c2] 179 (0,0)):=(Bh _ _ _ (by simp;omega)).trans (qe _ _ ae.symm);have ar:((w.alloc (.cells #[.int .i64 Z,.int .i64 U,.int .i64 X,.int .i64 Y,.int .u32 lf,.int .u64 J,.int .u32 S,.int .i64 V,.int .i64 I,.slice (some ⟨b1,o1,none⟩) G.length c1,.slice (some ⟨b2,o2,none⟩) o.length c2] 179)).alloc (.cells Kb 179)).heap[q+1]? =some (.cells Kb 179 (0,0)):=qe _ _ (by simp;omega);have aB:((w.alloc (.cells #[.int .i64 Z,.int .i64 U,.int .i64 X,.int .i64 Y,.int .u32 lf,.int .u64 J,.int .u32 S,.int .i64 V,.int .i64 I,.slice (some ⟨b1,o1,none⟩) G.length c1,.slice (some ⟨b2,o2,none⟩) o.length c2] 179)).alloc (.cells Kb 179)).heap.size=q+2:=by simp;omega
 go_enter Tryz.func138,Tryz.ntmps138
 go_upto_region 1 with(fail)
 generalize ((w.alloc (.cells #[.int .i64 Z,.int .i64 U,.int .i64 X,.int .i64 Y,.int .u32 lf,.int .u64 J,.int .u32 S,.int .i64 V,.int .i64 I,.slice (some ⟨b1,o1,none⟩) G.length c1,.slice (some ⟨b2,o2,none⟩) o.length c2] 179)).alloc (.cells Kb 179))=w1 at*;have B1:Qy w1 b1 o1 G:=YV H1.out (by omega) ag;have B2:Qy w1 b2 o2 o:=YV H2.out (by omega) ag;have c9:=qd ai 9;have al:=qd ai 10;refine qE (n:=7) (w0:=w1) (B:=w1.heap.size) [.z 3 q 9,.v 4 (.slice (some ⟨b1,o1,none⟩) G.length c1),.p 5 (fun u W=>W.ownsRow w1.heap.size 5 1 u (Qp G G.length) ((G.take (Qp G G.length)).map qp)),.z 6 q 10,.v 7 (.slice (some ⟨b2,o2,none⟩) o.length c2),.p 8 (fun u W=>W.ownsRow w1.heap.size 5 1 u (Qp o o.length) ((o.take (Qp o o.length)).map qp)),.z 9 q 9] (by exact⟨(fun _ _ _ h hb=>qi h (fun g _ g2=>hb.block g g2)),(fun _ _ _ h hb=>qi h (fun g _ g2=>hb.block g g2)),trivial⟩) Br.drew Nl ?_ ?_
 ·repeat' (with_reducible first|exact qz|refine qx ?_ ?_)
  all_goals try
   intro A x W hA hW ab O D K hK;have a1:=hA.2 1 (by decide);conv at a1=>rhs;whnf
   simp only[QS,yc]at D;clear O hA;first
   | go_simp
     exact hK _ _ BR rfl
   | have y0:=(hW.cell (p:=⟨q,9,none⟩) (by show q<_;omega)).trans c9
     have y1:q<W.heap.size:=by omega
     have y2:=(hW.cell (p:=⟨q,10,none⟩) (by show q<_;omega)).trans al;go_simp
     exact hK _ _ BR rfl
  ·intro A x W hA hW ab O _ K hK;have g4:=gv hA O 1 4;clear O hA;go_simp
   refine(qbK G b1 o1 c1 _ (YV B1 Nl hW) ax az).mono ?_;rintro r w3 ⟨u,rfl,ac,hb⟩
   exact hK _ _ hb (ownsRow_le ac ab)
  ·intro A x W hA hW ab O _ K hK;have g7:=gv hA O 4 7;clear O hA;go_simp
   refine(qbK o b2 o2 c2 _ (YV B2 Nl hW) ay au).mono ?_;rintro r w3 ⟨u,rfl,ac,hb⟩
   exact hK _ _ hb (ownsRow_le ac ab)
 intro x W hW ab ao;obtain⟨e5,e8, -⟩:=ao;change (fun u W=>W.ownsRow w1.heap.size 5 1 u (Qp G G.length) ((G.take (Qp G G.length)).map qp)) (x 5) W at e5
 change (fun u W=>W.ownsRow w1.heap.size 5 1 u (Qp o o.length) ((o.take (Qp o o.length)).map qp)) (x 8) W at e8
 have aa:W.heap[q]? =some (.cells #[.int .i64 Z,.int .i64 U,.int .i64 X,.int .i64 Y,.int .u32 lf,.int .u64 J,.int .u32 S,.int .i64 V,.int .i64 I,.slice (some ⟨b1,o1,none⟩) G.length c1,.slice (some ⟨b2,o2,none⟩) o.length c2] 179 (0,0)):=(hW.block q (by omega)).trans ai;have ah:W.heap[q+1]? =some (.cells Kb 179 (0,0)):=(hW.block (q+1) (by omega)).trans ar;refine qt ?_;simp only[QG,Act.put,Ls];generalize x 5=sa at*;generalize x 8=pe at*;obtain⟨a5,n5,k5,rfl⟩:=qr e5;obtain⟨a8,n8,k8,rfl⟩:=qr e8;have d9:=qd aa 9;have af:=qd aa 10;have f9:=frozen_of_row W q 9 _ _ aa;go_wp2_with fail
 have ad:(W.setCell ⟨q,9,none⟩ (.slice a5 n5 k5)).heap[q]? =some (.cells #[.int .i64 Z,.int .i64 U,.int .i64 X,.int .i64 Y,.int .u32 lf,.int .u64 J,.int .u32 S,.int .i64 V,.int .i64 I,.slice a5 n5 k5,.slice (some ⟨b2,o2,none⟩) o.length c2] 179 (0,0)):=heap_setCell_same W q 9 _ _ _ aa;have am:(W.setCell ⟨q,9,none⟩ (.slice a5 n5 k5)).heap[q+1]? =some (.cells Kb 179 (0,0)):=(heap_setCell_other W _ _ _ (by simp)).trans ah;have an:Below q w (W.setCell ⟨q,9,none⟩ (.slice a5 n5 k5)):=(ag.trans (hW.mono (by omega))).setCell Nl _;have o5:=ownsRow_setCell_below e5 (a:=⟨q,9,none⟩) (by show q<_;omega) (.slice a5 n5 k5);have o8:=ownsRow_setCell_below e8 (a:=⟨q,9,none⟩) (by show q<_;omega) (.slice a5 n5 k5);generalize W.setCell ⟨q,9,none⟩ (.slice a5 n5 k5)=W2 at*;clear d9 af f9 aa ah hW ab e5 e8;have af:=qd ad 10;have aw:=frozen_of_row W2 q 10 _ _ ad;refine qt ?_;go_wp2_with fail
 refine qt ?_;go_wp2_with fail
 have aq:(W2.setCell ⟨q,10,none⟩ (.slice a8 n8 k8)).heap[q]? =some (.cells #[.int .i64 Z,.int .i64 U,.int .i64 X,.int .i64 Y,.int .u32 lf,.int .u64 J,.int .u32 S,.int .i64 V,.int .i64 I,.slice a5 n5 k5,.slice a8 n8 k8] 179 (0,0)):=heap_setCell_same W2 q 10 _ _ _ ad;have ak:(W2.setCell ⟨q,10,none⟩ (.slice a8 n8 k8)).heap[q+1]? =some (.cells Kb 179 (0,0)):=(heap_setCell_other W2 _ _ _ (by simp)).trans am;have ap:=an.setCell (p:=⟨q,10,none⟩) Nl (.slice a8 n8 k8);have q5:=ownsRow_setCell_below o5 (a:=⟨q,10,none⟩) (by show q<_;omega) (.slice a8 n8 k8);have q8:=ownsRow_setCell_below o8 (a:=⟨q,10,none⟩) (by show q<_;omega) (.slice a8 n8 k8);generalize W2.setCell ⟨q,10,none⟩ (.slice a8 n8 k8)=W3 at*;clear af aw ad am an o5 o8 c9 al;refine qw ?_;go_wp2_with (first|(refine L179 q rfl aq ?_)|((with_reducible show wpList _ _ _ (Oper.mk _ (Op.store _ _ _) _ _ _ _::_) _ _);refine wpList_store_row rfl 179 _ _ rfl (q+1) #[.int .i64 Z,.int .i64 U,.int .i64 X,.int .i64 Y,.int .u32 lf,.int .u64 J,.int .u32 S,.int .i64 V,.int .i64 I,.slice a5 n5 k5,.slice a8 n8 k8] rfl rfl 179 _ ak (by kernel_rfl) rfl (by simp[Value.oneCell']) ?_))
 have aj: ∀{v:Value} {n:Nat} {xs:List Value},W3.ownsRow w1.heap.size 5 1 v n xs->(W3.setRow (q+1) #[.int .i64 Z,.int .i64 U,.int .i64 X,.int .i64 Y,.int .u32 lf,.int .u64 J,.int .u32 S,.int .i64 V,.int .i64 I,.slice a5 n5 k5,.slice a8 n8 k8]).ownsRow w1.heap.size 5 1 v n xs:=fun h=>qi h (fun g g1 _=>setRow_other _ _ _ _ (by omega))
 exact Bp (results_cell_row rfl _ _ (q+1) _ _ _ _ rfl (setRow_heap W3 (q+1) _ #[.int .i64 Z,.int .i64 U,.int .i64 X,.int .i64 Y,.int .u32 lf,.int .u64 J,.int .u32 S,.int .i64 V,.int .i64 I,.slice a5 n5 k5,.slice a8 n8 k8] _ _ ak) Tryz.underlying179 rfl (by kernel_rfl)) rfl ⟨_,_,rfl,ownsRow_le (aj q5) (by omega),ownsRow_le (aj q8) (by omega),by rw[ae];exact below_setRow ap (by omega) _⟩
theorem J0 (big:Bool)(V J S U Y I O G:Int)(D q:List Int)(b1 o1 c1 b2 X c2:Nat)(w:World)(h1:Qy w b1 o1 D)(h2:Qy w b2 X q)(aM:D.length<=c1)(aN:q.length<=c2)(aO:D.length<=sB big)(aJ:q.length<=sB big)(hP:okP big V J S U I O G):
  Calls Tryz.prog 180 #[.int .i64 (kB big),parV V J S U Y I 0 O G (.slice (some ⟨b1,o1,none⟩) D.length c1) (.slice (some ⟨b2,X,none⟩) q.length c2)] w fun e w'=>(∃sa pe,e= .returned (.tuple #[parV V J S U Y I 0 O G sa pe,.int .i64 0])/\w'.ownsRow w.heap.size 5 1 sa (Qp D D.length) ((D.take (Qp D D.length)).map qp)/\w'.ownsRow w.heap.size 5 1 pe (Qp q q.length) ((q.take (Qp q q.length)).map qp))/\Below w.heap.size w w':=by
 obtain⟨o,an⟩:=Ex w.heap.size;have hS:sB big<=16:=by cases big<;>decide
 have H1:=hid h1;have H2:=hid h2;clear h1 h2;have aE:Below o w ((w.alloc (.cells #[.int .i64 V,.int .i64 J,.int .i64 S,.int .i64 U,.int .u32 Y,.int .u64 I,.int .u32 0,.int .i64 O,.int .i64 G,.slice (some ⟨b1,o1,none⟩) D.length c1,.slice (some ⟨b2,X,none⟩) q.length c2] 179)).alloc (.cells Kb 179)):=by rw[<-an];exact(Br.alloc Nl _).alloc (by simp) _
 have ax:((w.alloc (.cells #[.int .i64 V,.int .i64 J,.int .i64 S,.int .i64 U,.int .u32 Y,.int .u64 I,.int .u32 0,.int .i64 O,.int .i64 G,.slice (some ⟨b1,o1,none⟩) D.length c1,.slice (some ⟨b2,X,none⟩) q.length c2] 179)).alloc (.cells Kb 179)).heap[o]? =some (.cells #[.int .i64 V,.int .i64 J,.int .i64 S,.int .i64 U,.int .u32 Y,.int .u64 I,.int .u32 0,.int .i64 O,.int .i64 G,.slice (some ⟨b1,o1,none⟩) D.length c1,.slice (some ⟨b2,X,none⟩) q.length c2] 179 (0,0)):=(Bh _ _ _ (by simp;omega)).trans (qe _ _ an.symm);have aD:((w.alloc (.cells #[.int .i64 V,.int .i64 J,.int .i64 S,.int .i64 U,.int .u32 Y,.int .u64 I,.int .u32 0,.int .i64 O,.int .i64 G,.slice (some ⟨b1,o1,none⟩) D.length c1,.slice (some ⟨b2,X,none⟩) q.length c2] 179)).alloc (.cells Kb 179)).heap[o+1]? =some (.cells Kb 179 (0,0)):=qe _ _ (by simp;omega);have aS:((w.alloc (.cells #[.int .i64 V,.int .i64 J,.int .i64 S,.int .i64 U,.int .u32 Y,.int .u64 I,.int .u32 0,.int .i64 O,.int .i64 G,.slice (some ⟨b1,o1,none⟩) D.length c1,.slice (some ⟨b2,X,none⟩) q.length c2] 179)).alloc (.cells Kb 179)).heap.size=o+2:=by simp;omega
 have au:=hid (fun(W:World)=>qa5 big V J S U Y I O G (some ⟨b1,o1,none⟩) (some ⟨b2,X,none⟩) D.length q.length c1 c2 W hP aO aJ);unfold parV at au⊢;clear hP;go_enter Tryz.func180,Tryz.ntmps180
 go_upto_region 1 with(fail)
 generalize ((w.alloc (.cells #[.int .i64 V,.int .i64 J,.int .i64 S,.int .i64 U,.int .u32 Y,.int .u64 I,.int .u32 0,.int .i64 O,.int .i64 G,.slice (some ⟨b1,o1,none⟩) D.length c1,.slice (some ⟨b2,X,none⟩) q.length c2] 179)).alloc (.cells Kb 179))=w1 at*;go_wp2_with (refine L179 o rfl ax ?_)
 refine(au.out w1).mono ?_;rintro e w2 ⟨rfl,af⟩;clear au;have ak:Below o w w2:=aE.trans (af.mono (by omega));have ah:=qf ax af;have av:=qf aD af;have aT:=af.size;clear ax aD af aE;have B1:Qy w2 b1 o1 D:=YV H1.out (by omega) ak;have B2:Qy w2 b2 X q:=YV H2.out (by omega) ak;have c9:=qd ah 9;have aa:o<w2.heap.size:=by omega
 go_upto_region 4 with(fail)
 go_wp2_with fail
 refine(Jv D b1 o1 c1 _ B1 aM (by omega)).mono ?_;rintro r Z ⟨sa,rfl,ag,ab⟩;obtain⟨a5,n5,k5,rfl⟩:=qr ag;have ad:=qf ah ab;have ao:=qf av ab;have aG:Below o w Z:=ak.trans (ab.mono (by omega));have aQ:=ab.size;have aI:Qy Z b2 X q:=YV B2 Nl ab;clear ah av ak ab B1 B2 c9 aa;have c9:=qd ad 9;have f9:=frozen_of_row Z o 9 _ _ ad;have aa:o<Z.heap.size:=by omega
 go_upto_region 5 with(fail)
 have ai:(Z.setCell ⟨o,9,none⟩ (.slice a5 n5 k5)).heap[o]? =some (.cells #[.int .i64 V,.int .i64 J,.int .i64 S,.int .i64 U,.int .u32 Y,.int .u64 I,.int .u32 0,.int .i64 O,.int .i64 G,.slice a5 n5 k5,.slice (some ⟨b2,X,none⟩) q.length c2] 179 (0,0)):=heap_setCell_same Z o 9 _ _ _ ad;have am:(Z.setCell ⟨o,9,none⟩ (.slice a5 n5 k5)).heap[o+1]? =some (.cells Kb 179 (0,0)):=(heap_setCell_other Z _ _ _ (by simp)).trans ao;have ap:Below o w (Z.setCell ⟨o,9,none⟩ (.slice a5 n5 k5)):=aG.setCell Nl _;have az:=ownsRow_setCell_below ag (a:=⟨o,9,none⟩) (by show o<_;omega) (.slice a5 n5 k5);have aP:(Z.setCell ⟨o,9,none⟩ (.slice a5 n5 k5)).heap.size=Z.heap.size:=by simp[World.setCell]
 have aF:Qy (Z.setCell ⟨o,9,none⟩ (.slice a5 n5 k5)) b2 X q:=YV H2.out (by omega) ap;generalize Z.setCell ⟨o,9,none⟩ (.slice a5 n5 k5)=w4 at*;clear c9 f9 aa ad ao aG ag aI;have aw:=qd ai 10;have aa:o<w4.heap.size:=by omega
 go_wp2_with fail
 refine(Jv q b2 X c2 _ aF aN (by omega)).mono ?_;rintro r w5 ⟨pe,rfl,aj,ac⟩;obtain⟨a8,n8,k8,rfl⟩:=qr aj;have ae:=qf ai ac;have ar:=qf am ac;have aC:Below o w w5:=ap.trans (ac.mono (by omega));have al:=qi az (fun g _ g2=>ac.block g g2);have aR:=ac.size;clear ai am ap ac aF az aw aa;have aw:=qd ae 10;have aK:=frozen_of_row w5 o 10 _ _ ae;have aa:o<w5.heap.size:=by omega
 go_upto_region 6 with(fail)
 have aH:(w5.setCell ⟨o,10,none⟩ (.slice a8 n8 k8)).heap[o]? =some (.cells #[.int .i64 V,.int .i64 J,.int .i64 S,.int .i64 U,.int .u32 Y,.int .u64 I,.int .u32 0,.int .i64 O,.int .i64 G,.slice a5 n5 k5,.slice a8 n8 k8] 179 (0,0)):=heap_setCell_same w5 o 10 _ _ _ ae;have aq:(w5.setCell ⟨o,10,none⟩ (.slice a8 n8 k8)).heap[o+1]? =some (.cells Kb 179 (0,0)):=(heap_setCell_other w5 _ _ _ (by simp)).trans ar;have aL:Below o w (w5.setCell ⟨o,10,none⟩ (.slice a8 n8 k8)):=aC.setCell Nl _;have aB:=ownsRow_setCell_below al (a:=⟨o,10,none⟩) (by show o<_;omega) (.slice a8 n8 k8);have aA:=ownsRow_setCell_below aj (a:=⟨o,10,none⟩) (by show o<_;omega) (.slice a8 n8 k8);generalize w5.setCell ⟨o,10,none⟩ (.slice a8 n8 k8)=w6 at*;clear aw aK aa ae ar aC al aj;go_wp2_with (first|(refine L179 o rfl aH ?_)|((with_reducible show wpList _ _ _ (Oper.mk _ (Op.store 179 _ _) _ _ _ _::_) _ _);refine wpList_store_row rfl 179 _ _ rfl (o+1) #[.int .i64 V,.int .i64 J,.int .i64 S,.int .i64 U,.int .u32 Y,.int .u64 I,.int .u32 0,.int .i64 O,.int .i64 G,.slice a5 n5 k5,.slice a8 n8 k8] rfl rfl 179 _ aq (by kernel_rfl) rfl (by simp[Value.oneCell']) ?_))
 have ay: ∀{B:Nat} {v:Value} {n:Nat} {xs:List Value},o+1<B->w6.ownsRow B 5 1 v n xs->(w6.setRow (o+1) #[.int .i64 V,.int .i64 J,.int .i64 S,.int .i64 U,.int .u32 Y,.int .u64 I,.int .u32 0,.int .i64 O,.int .i64 G,.slice a5 n5 k5,.slice a8 n8 k8]).ownsRow B 5 1 v n xs:=fun hB h=>qi h (fun g g1 _=>setRow_other _ _ _ _ (by omega))
 exact Bp (qI rfl _ _ (o+1) _ _ _ _ rfl (setRow_heap w6 (o+1) _ #[.int .i64 V,.int .i64 J,.int .i64 S,.int .i64 U,.int .u32 Y,.int .u64 I,.int .u32 0,.int .i64 O,.int .i64 G,.slice a5 n5 k5,.slice a8 n8 k8] _ _ aq) Tryz.underlying179 rfl (by kernel_rfl)) rfl ⟨⟨_,_,rfl,ownsRow_le (ay (by omega) aB) (by omega),ownsRow_le (ay (by omega) aA) (by omega)⟩,by rw[an];exact below_setRow aL (by omega) _⟩
