/- Parameters without the noughts at the ends of salt and personal, by the program. No condition. -/
import Derived.Test.YthjoojnlnlmljaaGreatP00
import Derived.Test.YthjoojnlnlmljaaGreatP01
import Derived.Test.YthjoojnlnlmljaaGreatB23
import Derived.Test.YthjoojnlnlmljaaGreatB24
import Derived.Test.YthjoojnlnlmljaaGreatB22
set_option linter.all false
set_option maxRecDepth 100000
set_option maxHeartbeats 8000000
namespace Go.Proofs.YthjoojnlnlmljaaGreat
open Go.ChangeShapes Go.WideShapes Go.ChangeAt Go.RowKit Go.Joins Go.Shelf Go.Maps
open Go.Lib (hid)
attribute [local go_sem] Oper.semAt_some
theorem qf {p:Nat}{o:Obj}{W W':World}(h:W.heap[p]? =some o)(q:Below W.heap.size W W'):W'.heap[p]? =some o:=(q.block p (Ai h).1).trans h
theorem YK {W W':World}{b off:Nat}{zs:List Int}{B:Nat}(h:Qx W b off zs)(q:W.heap.size≤B)(o:Below B W W'):Qx W' b off zs:=
 ⟨Nat.lt_of_lt_of_le h.1 o.size,fun i hi=>(o.cell (p:=⟨b,off+i,none⟩) (Nat.lt_of_lt_of_le h.1 q)).trans (h.2 i hi)⟩
theorem qs {W:World}{B n:Nat}{e:TypeId}{v:Value}{xs:List Value}(h:W.ownsRow B e 1 v n xs): ∃a m c,v= .slice a m c:=by
 rcases h.2 with⟨rfl, -⟩|⟨g,q,o,rfl, -⟩
 ·exact⟨_,_,_,rfl⟩
 ·exact⟨_,_,_,rfl⟩
def xoZ (big ext:Bool)(zs:List Int):Int:=cond ext (qO zs 12 (szB big 7)) 0
theorem qbR {zs:List Int}{i at_ n:Nat}(h:i<n):qp ((zs.drop at_).take n) i=qp zs (at_+i):=by
 unfold qp;simp[Lg,List.getElem?_take,h,List.getElem?_drop]
theorem QB {zs:List Int}{at_ n:Nat}(h:at_+n≤zs.length):((zs.drop at_).take n).length=n:=by simp;omega
theorem zw {W:World}{b off:Nat}{zs:List Int}(h:Qx W b off zs){at_ n:Nat}(o:at_+n≤zs.length):Qx W b (off+at_) ((zs.drop at_).take n):=
 ⟨h.1,fun i hi=>by
  rw[QB o]at hi;rw[qbR hi,Nat.add_assoc];exact h.2 _ (by omega)⟩
theorem qcX (U Z X Y lf I V S J:Int)(G o:List Int)(b1 o1 c1 b2 o2 c2:Nat)(w:World)(h1:Qx w b1 o1 G)(h2:Qx w b2 o2 o)(ar:G.length≤c1)(ay:o.length≤c2)(az:G.length≤4294967296)(au:o.length≤4294967296):
  Calls Tryz.prog 131 #[parV U Z X Y lf I V S J (.slice (some ⟨b1,o1,none⟩) G.length c1) (.slice (some ⟨b2,o2,none⟩) o.length c2)] w fun e w'=> ∃sa pe,e= .returned (parV U Z X Y lf I V S J sa pe)∧
   w'.ownsRow w.heap.size 5 1 sa (Qp G G.length) ((G.take (Qp G G.length)).map qo)∧w'.ownsRow w.heap.size 5 1 pe (Qp o o.length) ((o.take (Qp o o.length)).map qo)∧Below w.heap.size w w':=by
 obtain⟨q,ae⟩:=Ex w.heap.size;unfold parV;obtain⟨S1,aw⟩: ∃v:Value,v= .slice (some ⟨b1,o1,none⟩) G.length c1:=⟨_,rfl⟩;obtain⟨S2,ax⟩: ∃v:Value,v= .slice (some ⟨b2,o2,none⟩) o.length c2:=⟨_,rfl⟩;have H1:=hid h1;have H2:=hid h2;clear h1 h2;clear aw ax S1 S2;have ag:Below q w ((w.alloc (.cells #[.int .i64 U,.int .i64 Z,.int .i64 X,.int .i64 Y,.int .u32 lf,.int .u64 I,.int .u32 V,.int .i64 S,.int .i64 J,.slice (some ⟨b1,o1,none⟩) G.length c1,.slice (some ⟨b2,o2,none⟩) o.length c2] 171)).alloc (.cells Kb 171)):=by rw[←ae];exact(Br.alloc Nl _).alloc (by simp) _
 have aj:((w.alloc (.cells #[.int .i64 U,.int .i64 Z,.int .i64 X,.int .i64 Y,.int .u32 lf,.int .u64 I,.int .u32 V,.int .i64 S,.int .i64 J,.slice (some ⟨b1,o1,none⟩) G.length c1,.slice (some ⟨b2,o2,none⟩) o.length c2] 171)).alloc (.cells Kb 171)).heap[q]? =some (.cells #[.int .i64 U,.int .i64 Z,.int .i64 X,.int .i64 Y,.int .u32 lf,.int .u64 I,.int .u32 V,.int .i64 S,.int .i64 J,.slice (some ⟨b1,o1,none⟩) G.length c1,.slice (some ⟨b2,o2,none⟩) o.length c2] 171 (0,0)):=(Bh _ _ _ (by simp;omega)).trans (qe _ _ ae.symm);have aA:((w.alloc (.cells #[.int .i64 U,.int .i64 Z,.int .i64 X,.int .i64 Y,.int .u32 lf,.int .u64 I,.int .u32 V,.int .i64 S,.int .i64 J,.slice (some ⟨b1,o1,none⟩) G.length c1,.slice (some ⟨b2,o2,none⟩) o.length c2] 171)).alloc (.cells Kb 171)).heap[q+1]? =some (.cells Kb 171 (0,0)):=qe _ _ (by simp;omega);have aB:((w.alloc (.cells #[.int .i64 U,.int .i64 Z,.int .i64 X,.int .i64 Y,.int .u32 lf,.int .u64 I,.int .u32 V,.int .i64 S,.int .i64 J,.slice (some ⟨b1,o1,none⟩) G.length c1,.slice (some ⟨b2,o2,none⟩) o.length c2] 171)).alloc (.cells Kb 171)).heap.size=q+2:=by simp;omega
 go_enter Tryz.func131,Tryz.ntmps131
 go_upto_region 1 with(fail)
 generalize ((w.alloc (.cells #[.int .i64 U,.int .i64 Z,.int .i64 X,.int .i64 Y,.int .u32 lf,.int .u64 I,.int .u32 V,.int .i64 S,.int .i64 J,.slice (some ⟨b1,o1,none⟩) G.length c1,.slice (some ⟨b2,o2,none⟩) o.length c2] 171)).alloc (.cells Kb 171))=w1 at*;have B1:Qx w1 b1 o1 G:=YK H1.out (by omega) ag;have B2:Qx w1 b2 o2 o:=YK H2.out (by omega) ag;have c9:=qd aj 9;have an:=qd aj 10;refine qI (n:=7) (w0:=w1) (B:=w1.heap.size) [.z 3 q 9,.v 4 (.slice (some ⟨b1,o1,none⟩) G.length c1),.p 5 (fun u W=>W.ownsRow w1.heap.size 5 1 u (Qp G G.length) ((G.take (Qp G G.length)).map qo)),.z 6 q 10,.v 7 (.slice (some ⟨b2,o2,none⟩) o.length c2),.p 8 (fun u W=>W.ownsRow w1.heap.size 5 1 u (Qp o o.length) ((o.take (Qp o o.length)).map qo)),.z 9 q 9] (by exact⟨(fun _ _ _ h hb=>qi h (fun g _ g2=>hb.block g g2)),(fun _ _ _ h hb=>qi h (fun g _ g2=>hb.block g g2)),trivial⟩) Br.drew Nl ?_ ?_
 ·repeat' (with_reducible first|exact qB|refine qw ?_ ?_)
  all_goals try
   intro A x W hA hW ab O D K hK;have a1:=hA.2 1 (by decide);conv at a1=>rhs;whnf
   simp only[Q7,yk]at D;clear O hA;first
   | go_simp
     exact hK _ _ BR rfl
   | have y0:=(hW.cell (p:=⟨q,9,none⟩) (by show q<_;omega)).trans c9
     have y1:q<W.heap.size:=by omega
     have y2:=(hW.cell (p:=⟨q,10,none⟩) (by show q<_;omega)).trans an;go_simp
     exact hK _ _ BR rfl
  ·intro A x W hA hW ab O _ K hK;have g4:=gv hA O 1 4;clear O hA;go_simp
   refine(qbw G b1 o1 c1 _ (YK B1 Nl hW) ar az).mono ?_;rintro r w3 ⟨u,rfl,ac,hb⟩
   exact hK _ _ hb (ownsRow_le ac ab)
  ·intro A x W hA hW ab O _ K hK;have g7:=gv hA O 4 7;clear O hA;go_simp
   refine(qbw o b2 o2 c2 _ (YK B2 Nl hW) ay au).mono ?_;rintro r w3 ⟨u,rfl,ac,hb⟩
   exact hK _ _ hb (ownsRow_le ac ab)
 intro x W hW ab ao;obtain⟨e5,e8, -⟩:=ao;change (fun u W=>W.ownsRow w1.heap.size 5 1 u (Qp G G.length) ((G.take (Qp G G.length)).map qo)) (x 5) W at e5
 change (fun u W=>W.ownsRow w1.heap.size 5 1 u (Qp o o.length) ((o.take (Qp o o.length)).map qo)) (x 8) W at e8
 have aa:W.heap[q]? =some (.cells #[.int .i64 U,.int .i64 Z,.int .i64 X,.int .i64 Y,.int .u32 lf,.int .u64 I,.int .u32 V,.int .i64 S,.int .i64 J,.slice (some ⟨b1,o1,none⟩) G.length c1,.slice (some ⟨b2,o2,none⟩) o.length c2] 171 (0,0)):=(hW.block q (by omega)).trans aj;have ai:W.heap[q+1]? =some (.cells Kb 171 (0,0)):=(hW.block (q+1) (by omega)).trans aA;refine qr ?_;simp only[QP,Act.put,Ls];generalize x 5=sa at*;generalize x 8=pe at*;obtain⟨a5,n5,k5,rfl⟩:=qs e5;obtain⟨a8,n8,k8,rfl⟩:=qs e8;have d9:=qd aa 9;have ah:=qd aa 10;have f9:=frozen_of_row W q 9 _ _ aa;go_wp2_with fail
 have ad:(W.setCell ⟨q,9,none⟩ (.slice a5 n5 k5)).heap[q]? =some (.cells #[.int .i64 U,.int .i64 Z,.int .i64 X,.int .i64 Y,.int .u32 lf,.int .u64 I,.int .u32 V,.int .i64 S,.int .i64 J,.slice a5 n5 k5,.slice (some ⟨b2,o2,none⟩) o.length c2] 171 (0,0)):=heap_setCell_same W q 9 _ _ _ aa;have am:(W.setCell ⟨q,9,none⟩ (.slice a5 n5 k5)).heap[q+1]? =some (.cells Kb 171 (0,0)):=(heap_setCell_other W _ _ _ (by simp)).trans ai;have ak:Below q w (W.setCell ⟨q,9,none⟩ (.slice a5 n5 k5)):=(ag.trans (hW.mono (by omega))).setCell Nl _;have o5:=ownsRow_setCell_below e5 (a:=⟨q,9,none⟩) (by show q<_;omega) (.slice a5 n5 k5);have o8:=ownsRow_setCell_below e8 (a:=⟨q,9,none⟩) (by show q<_;omega) (.slice a5 n5 k5);generalize W.setCell ⟨q,9,none⟩ (.slice a5 n5 k5)=W2 at*;clear d9 ah f9 aa ai hW ab e5 e8;have ah:=qd ad 10;have av:=frozen_of_row W2 q 10 _ _ ad;refine qr ?_;go_wp2_with fail
 refine qr ?_;go_wp2_with fail
 have ap:(W2.setCell ⟨q,10,none⟩ (.slice a8 n8 k8)).heap[q]? =some (.cells #[.int .i64 U,.int .i64 Z,.int .i64 X,.int .i64 Y,.int .u32 lf,.int .u64 I,.int .u32 V,.int .i64 S,.int .i64 J,.slice a5 n5 k5,.slice a8 n8 k8] 171 (0,0)):=heap_setCell_same W2 q 10 _ _ _ ad;have al:(W2.setCell ⟨q,10,none⟩ (.slice a8 n8 k8)).heap[q+1]? =some (.cells Kb 171 (0,0)):=(heap_setCell_other W2 _ _ _ (by simp)).trans am;have aq:=ak.setCell (p:=⟨q,10,none⟩) Nl (.slice a8 n8 k8);have q5:=ownsRow_setCell_below o5 (a:=⟨q,10,none⟩) (by show q<_;omega) (.slice a8 n8 k8);have q8:=ownsRow_setCell_below o8 (a:=⟨q,10,none⟩) (by show q<_;omega) (.slice a8 n8 k8);generalize W2.setCell ⟨q,10,none⟩ (.slice a8 n8 k8)=W3 at*;clear ah av ad am ak o5 o8 c9 an;refine qv ?_;go_wp2_with (first|(refine L171 q rfl ap ?_)|((with_reducible show wpList _ _ _ (Oper.mk _ (Op.store _ _ _) _ _ _ _::_) _ _);refine wpList_store_row rfl 171 _ _ rfl (q+1) #[.int .i64 U,.int .i64 Z,.int .i64 X,.int .i64 Y,.int .u32 lf,.int .u64 I,.int .u32 V,.int .i64 S,.int .i64 J,.slice a5 n5 k5,.slice a8 n8 k8] rfl rfl 171 _ al (by kernel_rfl) rfl (by simp[Value.oneCell']) ?_))
 have af: ∀{v:Value} {n:Nat} {xs:List Value},W3.ownsRow w1.heap.size 5 1 v n xs→(W3.setRow (q+1) #[.int .i64 U,.int .i64 Z,.int .i64 X,.int .i64 Y,.int .u32 lf,.int .u64 I,.int .u32 V,.int .i64 S,.int .i64 J,.slice a5 n5 k5,.slice a8 n8 k8]).ownsRow w1.heap.size 5 1 v n xs:=fun h=>qi h (fun g g1 _=>setRow_other _ _ _ _ (by omega))
 exact Bp (results_cell_row rfl _ _ (q+1) _ _ _ _ rfl (setRow_heap W3 (q+1) _ #[.int .i64 U,.int .i64 Z,.int .i64 X,.int .i64 Y,.int .u32 lf,.int .u64 I,.int .u32 V,.int .i64 S,.int .i64 J,.slice a5 n5 k5,.slice a8 n8 k8] _ _ al) Tryz.underlying171 rfl (by kernel_rfl)) rfl ⟨_,_,rfl,ownsRow_le (af q5) (by omega),ownsRow_le (af q8) (by omega),by rw[ae];exact below_setRow aq (by omega) _⟩
theorem JN (big:Bool)(O V S U Y G J I:Int)(D q:List Int)(b1 o1 c1 b2 X c2:Nat)(w:World)(h1:Qx w b1 o1 D)(h2:Qx w b2 X q)(aI:D.length≤c1)(aL:q.length≤c2)(aM:D.length≤sB big)(aJ:q.length≤sB big)(hP:okP big O V S U G J I):
  Calls Tryz.prog 174 #[.int .i64 (kB big),parV O V S U Y G 0 J I (.slice (some ⟨b1,o1,none⟩) D.length c1) (.slice (some ⟨b2,X,none⟩) q.length c2)] w fun e w'=>(∃sa pe,e= .returned (.tuple #[parV O V S U Y G 0 J I sa pe,.int .i64 0])∧w'.ownsRow w.heap.size 5 1 sa (Qp D D.length) ((D.take (Qp D D.length)).map qo)∧w'.ownsRow w.heap.size 5 1 pe (Qp q q.length) ((q.take (Qp q q.length)).map qo))∧Below w.heap.size w w':=by
 obtain⟨o,am⟩:=Ex w.heap.size;have hS:sB big≤16:=by cases big<;>decide
 have H1:=hid h1;have H2:=hid h2;clear h1 h2;have aF:Below o w ((w.alloc (.cells #[.int .i64 O,.int .i64 V,.int .i64 S,.int .i64 U,.int .u32 Y,.int .u64 G,.int .u32 0,.int .i64 J,.int .i64 I,.slice (some ⟨b1,o1,none⟩) D.length c1,.slice (some ⟨b2,X,none⟩) q.length c2] 171)).alloc (.cells Kb 171)):=by rw[←am];exact(Br.alloc Nl _).alloc (by simp) _
 have az:((w.alloc (.cells #[.int .i64 O,.int .i64 V,.int .i64 S,.int .i64 U,.int .u32 Y,.int .u64 G,.int .u32 0,.int .i64 J,.int .i64 I,.slice (some ⟨b1,o1,none⟩) D.length c1,.slice (some ⟨b2,X,none⟩) q.length c2] 171)).alloc (.cells Kb 171)).heap[o]? =some (.cells #[.int .i64 O,.int .i64 V,.int .i64 S,.int .i64 U,.int .u32 Y,.int .u64 G,.int .u32 0,.int .i64 J,.int .i64 I,.slice (some ⟨b1,o1,none⟩) D.length c1,.slice (some ⟨b2,X,none⟩) q.length c2] 171 (0,0)):=(Bh _ _ _ (by simp;omega)).trans (qe _ _ am.symm);have aG:((w.alloc (.cells #[.int .i64 O,.int .i64 V,.int .i64 S,.int .i64 U,.int .u32 Y,.int .u64 G,.int .u32 0,.int .i64 J,.int .i64 I,.slice (some ⟨b1,o1,none⟩) D.length c1,.slice (some ⟨b2,X,none⟩) q.length c2] 171)).alloc (.cells Kb 171)).heap[o+1]? =some (.cells Kb 171 (0,0)):=qe _ _ (by simp;omega);have aT:((w.alloc (.cells #[.int .i64 O,.int .i64 V,.int .i64 S,.int .i64 U,.int .u32 Y,.int .u64 G,.int .u32 0,.int .i64 J,.int .i64 I,.slice (some ⟨b1,o1,none⟩) D.length c1,.slice (some ⟨b2,X,none⟩) q.length c2] 171)).alloc (.cells Kb 171)).heap.size=o+2:=by simp;omega
 have ap:=hid (fun(W:World)=>qaU big O V S U Y G J I (some ⟨b1,o1,none⟩) (some ⟨b2,X,none⟩) D.length q.length c1 c2 W hP aM aJ);unfold parV at ap⊢;clear hP;go_enter Tryz.func174,Tryz.ntmps174
 go_upto_region 1 with(fail)
 generalize ((w.alloc (.cells #[.int .i64 O,.int .i64 V,.int .i64 S,.int .i64 U,.int .u32 Y,.int .u64 G,.int .u32 0,.int .i64 J,.int .i64 I,.slice (some ⟨b1,o1,none⟩) D.length c1,.slice (some ⟨b2,X,none⟩) q.length c2] 171)).alloc (.cells Kb 171))=w1 at*;go_wp2_with (refine L171 o rfl az ?_)
 refine(ap.out w1).mono ?_;rintro e w2 ⟨rfl,af⟩;clear ap;have al:Below o w w2:=aF.trans (af.mono (by omega));have ah:=qf az af;have aq:=qf aG af;have aQ:=af.size;clear az aG af aF;have B1:Qx w2 b1 o1 D:=YK H1.out (by omega) al;have B2:Qx w2 b2 X q:=YK H2.out (by omega) al;have c9:=qd ah 9;have aa:o<w2.heap.size:=by omega
 go_upto_region 4 with(fail)
 go_wp2_with fail
 refine(Ji D b1 o1 c1 _ B1 aI (by omega)).mono ?_;rintro r Z ⟨sa,rfl,aj,ac⟩;obtain⟨a5,n5,k5,rfl⟩:=qs aj;have ad:=qf ah ac;have an:=qf aq ac;have aC:Below o w Z:=al.trans (ac.mono (by omega));have aP:=ac.size;have aN:Qx Z b2 X q:=YK B2 Nl ac;clear ah aq al ac B1 B2 c9 aa;have c9:=qd ad 9;have f9:=frozen_of_row Z o 9 _ _ ad;have aa:o<Z.heap.size:=by omega
 go_upto_region 5 with(fail)
 have ag:(Z.setCell ⟨o,9,none⟩ (.slice a5 n5 k5)).heap[o]? =some (.cells #[.int .i64 O,.int .i64 V,.int .i64 S,.int .i64 U,.int .u32 Y,.int .u64 G,.int .u32 0,.int .i64 J,.int .i64 I,.slice a5 n5 k5,.slice (some ⟨b2,X,none⟩) q.length c2] 171 (0,0)):=heap_setCell_same Z o 9 _ _ _ ad;have ay:(Z.setCell ⟨o,9,none⟩ (.slice a5 n5 k5)).heap[o+1]? =some (.cells Kb 171 (0,0)):=(heap_setCell_other Z _ _ _ (by simp)).trans an;have ar:Below o w (Z.setCell ⟨o,9,none⟩ (.slice a5 n5 k5)):=aC.setCell Nl _;have aw:=ownsRow_setCell_below aj (a:=⟨o,9,none⟩) (by show o<_;omega) (.slice a5 n5 k5);have aR:(Z.setCell ⟨o,9,none⟩ (.slice a5 n5 k5)).heap.size=Z.heap.size:=by simp[World.setCell]
 have aD:Qx (Z.setCell ⟨o,9,none⟩ (.slice a5 n5 k5)) b2 X q:=YK H2.out (by omega) ar;generalize Z.setCell ⟨o,9,none⟩ (.slice a5 n5 k5)=w4 at*;clear c9 f9 aa ad an aC aj aN;have au:=qd ag 10;have aa:o<w4.heap.size:=by omega
 go_wp2_with fail
 refine(Ji q b2 X c2 _ aD aL (by omega)).mono ?_;rintro r w5 ⟨pe,rfl,ai,ab⟩;obtain⟨a8,n8,k8,rfl⟩:=qs ai;have ae:=qf ag ab;have ax:=qf ay ab;have aE:Below o w w5:=ar.trans (ab.mono (by omega));have ak:=qi aw (fun g _ g2=>ab.block g g2);have aS:=ab.size;clear ag ay ar ab aD aw au aa;have au:=qd ae 10;have aK:=frozen_of_row w5 o 10 _ _ ae;have aa:o<w5.heap.size:=by omega
 go_upto_region 6 with(fail)
 have aH:(w5.setCell ⟨o,10,none⟩ (.slice a8 n8 k8)).heap[o]? =some (.cells #[.int .i64 O,.int .i64 V,.int .i64 S,.int .i64 U,.int .u32 Y,.int .u64 G,.int .u32 0,.int .i64 J,.int .i64 I,.slice a5 n5 k5,.slice a8 n8 k8] 171 (0,0)):=heap_setCell_same w5 o 10 _ _ _ ae;have av:(w5.setCell ⟨o,10,none⟩ (.slice a8 n8 k8)).heap[o+1]? =some (.cells Kb 171 (0,0)):=(heap_setCell_other w5 _ _ _ (by simp)).trans ax;have aO:Below o w (w5.setCell ⟨o,10,none⟩ (.slice a8 n8 k8)):=aE.setCell Nl _;have aA:=ownsRow_setCell_below ak (a:=⟨o,10,none⟩) (by show o<_;omega) (.slice a8 n8 k8);have aB:=ownsRow_setCell_below ai (a:=⟨o,10,none⟩) (by show o<_;omega) (.slice a8 n8 k8);generalize w5.setCell ⟨o,10,none⟩ (.slice a8 n8 k8)=w6 at*;clear au aK aa ae ax aE ak ai;go_wp2_with (first|(refine L171 o rfl aH ?_)|((with_reducible show wpList _ _ _ (Oper.mk _ (Op.store 171 _ _) _ _ _ _::_) _ _);refine wpList_store_row rfl 171 _ _ rfl (o+1) #[.int .i64 O,.int .i64 V,.int .i64 S,.int .i64 U,.int .u32 Y,.int .u64 G,.int .u32 0,.int .i64 J,.int .i64 I,.slice a5 n5 k5,.slice a8 n8 k8] rfl rfl 171 _ av (by kernel_rfl) rfl (by simp[Value.oneCell']) ?_))
 have ao: ∀{B:Nat} {v:Value} {n:Nat} {xs:List Value},o+1<B→w6.ownsRow B 5 1 v n xs→(w6.setRow (o+1) #[.int .i64 O,.int .i64 V,.int .i64 S,.int .i64 U,.int .u32 Y,.int .u64 G,.int .u32 0,.int .i64 J,.int .i64 I,.slice a5 n5 k5,.slice a8 n8 k8]).ownsRow B 5 1 v n xs:=fun hB h=>qi h (fun g g1 _=>setRow_other _ _ _ _ (by omega))
 exact Bp (qH rfl _ _ (o+1) _ _ _ _ rfl (setRow_heap w6 (o+1) _ #[.int .i64 O,.int .i64 V,.int .i64 S,.int .i64 U,.int .u32 Y,.int .u64 G,.int .u32 0,.int .i64 J,.int .i64 I,.slice a5 n5 k5,.slice a8 n8 k8] _ _ av) Tryz.underlying171 rfl (by kernel_rfl)) rfl ⟨⟨_,_,rfl,ownsRow_le (ao (by omega) aA) (by omega),ownsRow_le (ao (by omega) aB) (by omega)⟩,by rw[am];exact below_setRow aO (by omega) _⟩
end Go.Proofs.YthjoojnlnlmljaaGreat
