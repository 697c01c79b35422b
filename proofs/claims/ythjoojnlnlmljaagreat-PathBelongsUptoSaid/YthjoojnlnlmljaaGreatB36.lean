/- A node's call, by the reference's tree. No condition. -/
import Derived.Test.YthjoojnlnlmljaaGreatP00
import Derived.Test.YthjoojnlnlmljaaGreatP01
import Derived.Test.YthjoojnlnlmljaaGreatB33
import Derived.Test.YthjoojnlnlmljaaGreatB35
import Derived.Test.YthjoojnlnlmljaaGreatB34
import Derived.Test.YthjoojnlnlmljaaGreatB10
set_option linter.all false
set_option maxRecDepth 100000
set_option maxHeartbeats 8000000
namespace Go.Proofs.YthjoojnlnlmljaaGreat
open Go.ChangeShapes Go.WideShapes Go.ChangeAt Go.RowKit Go.Joins Go.Shelf Go.Maps
open Go.Lib (hid)
attribute [local go_sem] Oper.semAt_some
theorem qb6 {big o:Bool}{v:Nat→Nat}{i:Nat}(hi:2*sB big≤i): ∀k,k≤9→qp (QD big o v k) i=0
 | 0,_=>jY big o v i
 | k+1,h=>by
  have e: ∀j,1≤j→j≤9→atB big j+szB big j≤2*sB big:=fun j a b=>by
   rcases(show j=1∨j=2∨j=3∨j=4∨j=5∨j=6∨j=7∨j=8∨j=9 by omega)with rfl|rfl|rfl|rfl|rfl|rfl|rfl|rfl|rfl<;>cases big<;>decide
  have:=e (k+1) (by omega) h
  rw[QA big o v h i,if_neg (fun q=>by omega)];exact qb6 hi k (by omega)
theorem ZH {b:Nat}{W W':World}{z:List Int}{s:Value}(h:SideIs b W z s)(q:Below W.heap.size W W'):SideIs b W' z s:=by
 rcases h with h|⟨o,r⟩
 ·exact .inl h
 ·exact .inr ⟨o,qi r (fun g _ D=>q.block g D)⟩
theorem JJ {b:Nat}{W:World}{z:List Int}{s:Value}(h:SideIs b W z s)(q: ∀a∈z,0≤a∧a≤255): ∃o,Hold W s o∧o.length≤z.length∧(o=z∨o=[]∧ ∀a∈z,a=0):=by
 rcases h with⟨rfl,h⟩|⟨-,h⟩
 ·exact⟨[],Hold.nil W,Nat.zero_le _,.inr ⟨rfl,h⟩⟩
 ·exact⟨z,Qi h q,Nat.le_refl _,.inl rfl⟩
theorem qhu {z:List Int}(h: ∀a∈z,a=0)(i:Nat):qp z i=0:=by
 unfold qp;rw[Lg]
 cases e:z[i]? with
 | none=>rfl
 | some a=>exact h a (List.mem_of_getElem? e)
theorem qcM {b z:List Int}{p:Nat}(h:p+z.length≤b.length)(q: ∀a∈z,a=0)(r: ∀i,p≤i→i<p+z.length→qp b i=0)(i:Nat):qp (Qn b p z) i=qp b i:=by
 rw[YP h];split
 ·rename_i o;rw[qhu q,r i o.1 o.2]
 ·rfl
theorem qjx {a b:List Int}(q:a.length=b.length)(h: ∀i,qp a i=qp b i):a=b:=by
 refine List.ext_getElem q fun i o r=>?_
 have:=h i
 unfold qp at this;simpa [Lg,o,r] using this
theorem qdg {big:Bool}{v:Nat→Nat}{z1 z2 o r:List Int}(q:z1.length≤sB big)(I:z2.length≤sB big)(O:o=z1∨o=[]∧ ∀a∈z1,a=0)(J:r=z2∨r=[]∧ ∀a∈z2,a=0):QT big v o r=QT big v z1 z2:=by
 have Y:4*sB big=mB big:=by cases big<;>decide
 have V:=QW big (v 7==0) v 9 (by omega);have D:o.length≤sB big:=by rcases O with rfl|⟨rfl, -⟩<;>simp[q]
 have U:r.length≤sB big:=by rcases J with rfl|⟨rfl, -⟩<;>simp[I]
 refine qjx (by rw[yv D U,yv q I]) fun i=>?_
 have a1: ∀i,qp (Qn (QD big (v 7==0) v 9) (2*sB big) o) i=qp (Qn (QD big (v 7==0) v 9) (2*sB big) z1) i:=fun i=>by
  rcases O with rfl|⟨rfl,h⟩
  ·rfl
  ·rw[zm,qcM (by omega) h fun j S _=>qb6 S 9 (by omega)]
 have G: ∀y:List Int,y.length≤sB big→(Qn (QD big (v 7==0) v 9) (2*sB big) y).length=mB big:=fun y hy=>by rw[Qq (by omega),V]
 unfold QT;rcases J with rfl|⟨rfl,h⟩
 ·have m1:=G _ D;have Z:=G _ q;rw[YP (b:=Qn (QD big (v 7==0) v 9) (2*sB big) o) (by omega),YP (b:=Qn (QD big (v 7==0) v 9) (2*sB big) z1) (by omega),a1]
 ·rw[zm,a1,qcM (by rw[G _ q];omega) h fun j S X=>?_];rw[YP (by omega),if_neg (by omega)];exact qb6 (by omega) 9 (by omega)
theorem qcx (big:Bool)(v:Nat→Nat)(z1 z2:List Int)(G D:Value)(b:Nat)(w:World)(J:ParOk big v)(h1:SideIs b w z1 G)(h2:SideIs b w z2 D)(I: ∀a∈z1,0≤a∧a≤255)(Z: ∀a∈z2,0≤a∧a≤255)(o:z1.length≤sB big)(q:z2.length≤sB big):
  Calls Tryz.prog 138 #[.int .i64 (kB big),parN v G D] w fun e w'=>(∃r,e= .returned (.tuple #[r,.int .i64 0])∧w'.ownsRow w.heap.size 5 1 r (mB big) ((QT big v z1 z2).map qo))∧Below w.heap.size w w':=by
 obtain⟨X,V,Y,e1⟩:=JJ h1 I;obtain⟨O,U,S,e2⟩:=JJ h2 Z;rw[←qdg o q e1 e2]
 cases big
 ·exact ZW v X O G D w J V U (Nat.le_trans Y o) (Nat.le_trans S q)
 ·exact jn v X O G D w J V U (Nat.le_trans Y o) (Nat.le_trans S q)
def qdU (row:Nat)(kv:Value):Value:=if row=0 then kv else .slice none 0 0
theorem jm (t:TreeV)(total:Nat)(h:t.err total=0)(hl:0≤t.l∧t.l≤4294967295)(ht:(total:Int)≤18446744073709551615)(z1 z2:List Int)(row at_:Nat)(hr:row≤255)(ha:at_<281474976710656)(aK:t.there total row at_)(S:SpotV)(hS:t.spot total row at_=S)(da:Option Addr)(dn dc:Nat)(w:World)
  (h1:Hold w (.slice t.sa t.sl t.sc) z1) (h2:Hold w (.slice t.pa t.pl t.pc) z2):
  Calls Tryz.prog 104 #[t.val,.int .u64 total,.int .i64 row,.int .u64 at_,.slice da dn dc] w fun e w'=> ∃bv,e= .returned (.agg (yX t.k bv (qdU row (.slice t.ka t.kl t.kc)) S.last (t.outN S.root) (.slice da dn dc)))∧
   w'.ownsRow w.heap.size 5 1 bv (mB t.big) ((t.blk z1 z2 row at_).map qo)∧Below w.heap.size w w':=by
 obtain⟨o,ae⟩:=Ex w.heap.size;have h0:=(Qu hl h).2.2.2;have bw:z1.length=t.sl:=by obtain⟨a,c,e, -, -⟩:=h1.slice;simp only[Value.slice.injEq]at e;exact e.2.1.symm
 have bu:z2.length=t.pl:=by obtain⟨a,c,e, -, -⟩:=h2.slice;simp only[Value.slice.injEq]at e;exact e.2.1.symm
 have bo:=qn h0;have bn:=yx h0;have bj:sB t.big≤16:=by cases t.big<;>decide
 have ah:=hid (fun(W:World)=>Zd t hl total ht row at_ W);have aY:t.spotR total row at_=S:=by unfold TreeV.spotR;rw[if_pos ⟨h,aK⟩];exact hS
 have bd:t.spotE total row at_=0:=by unfold TreeV.spotE;rw[if_neg (by simp[h]),if_pos aK]
 rw[aY,bd]at ah;obtain⟨q0,q1,q2,q3,q4,q5⟩:=S;unfold SpotV.val at ah;simp only at ah
 have aE:=hid (fun(W:World) (hb:Below o w W)=>qdD t total row at_ ah W (hid (h1.below (ae▸hb)).holds8) (hid (h2.below (ae▸hb)).holds8) (hid h1.1) (hid h2.1) (hid (by omega)) (hid (by omega)));have aX:=hid (fun(W:World) (b:Nat) (s p:Value) (az:SideIs b W z1 s) (aH:SideIs b W z2 p)=>qcx t.big (t.vN row at_) z1 z2 s p b W (jC h0 hl hr ha) az aH h1.1 h2.1 (by omega) (by omega));simp only[TreeV.parN h0 hl,Yr h0]at aX;have HB:=hid (show t.blk z1 z2 row at_=QT t.big (t.vN row at_) z1 z2 from rfl);generalize t.blk z1 z2 row at_=BL at*;obtain⟨k,d,f,p,l,i,G,r,I,sa,sl,sc,pa,pl,pc⟩:=t;unfold TreeV.val at*;unfold qan at aE;simp only at*
 clear bo bn h h0 hl h1 h2 aK hS aY bd bj hr ha;go_enter Tryz.func104,Tryz.ntmps104
 go_upto_region 1 with(fail)
 have Z:((w.alloc (.cells #[.int .i64 k,.int .i64 d,.int .i64 f,.int .i64 p,.int .u32 l,.int .i64 i,.slice G r I,.slice sa sl sc,.slice pa pl pc] 26)).alloc (.cells Ke 73)).heap[o]? =some (.cells #[.int .i64 k,.int .i64 d,.int .i64 f,.int .i64 p,.int .u32 l,.int .i64 i,.slice G r I,.slice sa sl sc,.slice pa pl pc] 26 (0,0)):=(Bh _ _ _ (by simp;omega)).trans (qe _ _ ae.symm);have ac:((w.alloc (.cells #[.int .i64 k,.int .i64 d,.int .i64 f,.int .i64 p,.int .u32 l,.int .i64 i,.slice G r I,.slice sa sl sc,.slice pa pl pc] 26)).alloc (.cells Ke 73)).heap[o+1]? =some (.cells Ke 73 (0,0)):=qe _ _ (by simp;omega);have ba:Below o w ((w.alloc (.cells #[.int .i64 k,.int .i64 d,.int .i64 f,.int .i64 p,.int .u32 l,.int .i64 i,.slice G r I,.slice sa sl sc,.slice pa pl pc] 26)).alloc (.cells Ke 73)):=by rw[←ae];exact(Br.alloc Nl _).alloc (by simp) _
 have bp:((w.alloc (.cells #[.int .i64 k,.int .i64 d,.int .i64 f,.int .i64 p,.int .u32 l,.int .i64 i,.slice G r I,.slice sa sl sc,.slice pa pl pc] 26)).alloc (.cells Ke 73)).heap.size=o+2:=by simp;omega
 generalize ((w.alloc (.cells #[.int .i64 k,.int .i64 d,.int .i64 f,.int .i64 p,.int .u32 l,.int .i64 i,.slice G r I,.slice sa sl sc,.slice pa pl pc] 26)).alloc (.cells Ke 73))=wA at*;go_wp2_with (refine L26 o rfl Z ?_)
 refine(ah.out wA).mono ?_;rintro e w1 ⟨rfl,am⟩;have aS:=qf Z am;have aC:=qf ac am;have a6:Below o w w1:=ba.trans (am.mono (by omega));have az:=am.size;have al:=hid a6;have ab:=hid aS;have aa:=hid aC;clear am Z ac ba aS aC a6;go_upto_region 2 with(first|((with_reducible show wpList _ _ _ (Oper.mk none (Op.store 96 _ _) _ _ _ _::_) _ _);refine wpList_store_row rfl 96 _ _ rfl w1.heap.size #[.int .i64 q0,.int .u64 q1,.int .u64 q2,.int .u64 q3,.bool q4,.bool q5] rfl rfl 96 _ (Wn _ _) (by kernel_rfl) rfl (by simp[Value.oneCell']) ?_))
 refine qm ?_;intro W hW;obtain⟨b2,Y⟩:=Ex w1.heap.size;have af:W.heap[b2]? =some (.cells #[.int .i64 q0,.int .u64 q1,.int .u64 q2,.int .u64 q3,.bool q4,.bool q5] 96 (0,0)):=by rw[hW,←Y];exact setRow_heap _ _ _ _ _ _ (Wn _ _)
 have au:Below b2 w1 W:=by rw[hW,←Y];exact below_setRow (Br.alloc Nl _) Nl _
 have aQ:Below o w W:=al.out.trans (au.mono (by omega));have Z:=(au.block o (by omega)).trans ab.out;have ac:=(au.block (o+1) (by omega)).trans aa.out;have bA:o+1<b2:=by omega
 have br:b2<W.heap.size:=(Ai af).1;rw[Y];have aW:=hid Y;clear hW au al ab aa bp az Y;go_wp2_with (refine L26 o rfl Z ?_)
 refine(aE.out W aQ).mono ?_;rintro e w2 ⟨sv,pv,rfl,aG,aB,Y⟩;have ay:=qf Z Y;have aJ:=qf ac Y;have aV:=qf af Y;have a7:Below o w w2:=aQ.trans (Y.mono (by omega));have aH:=Y.size;have al:=hid a7;have ab:=hid ay;have aa:=hid aJ;have an:=hid aV;have bb:=hid aG;have be:=hid aB;obtain⟨aO,aP,aI,rfl⟩: ∃a n c,sv= .slice a n c:=by
  rcases aG with⟨rfl, -⟩|⟨-,ho⟩
  ·exact⟨_,_,_,rfl⟩
  ·exact qs ho
 obtain⟨aL,aT,aU,rfl⟩: ∃a n c,pv= .slice a n c:=by
  rcases aB with⟨rfl, -⟩|⟨-,ho⟩
  ·exact⟨_,_,_,rfl⟩
  ·exact qs ho
 have bk:b2<w2.heap.size:=by omega
 clear Y Z ac af ay aJ aV a7 aQ aE ah aG aB aW;go_upto_region 3 with(first|((with_reducible show wpList _ _ _ (Oper.mk none (Op.store 171 _ _) _ _ _ _::_) _ _);refine wpList_store_row rfl 171 _ _ rfl w2.heap.size #[.int .i64 d,.int .i64 r,.int .i64 f,.int .i64 p,.int .u32 l,.int .u64 at_,.int .u32 0,.int .i64 row,.int .i64 i,.slice aO aP aI,.slice aL aT aU] rfl rfl 171 _ (Wn _ _) (by kernel_rfl) rfl (by simp[Value.oneCell']) ?_))
 refine qm ?_;intro V hV;obtain⟨b3,D⟩:=Ex w2.heap.size;have aA:V.heap[b3]? =some (.cells #[.int .i64 d,.int .i64 r,.int .i64 f,.int .i64 p,.int .u32 l,.int .u64 at_,.int .u32 0,.int .i64 row,.int .i64 i,.slice aO aP aI,.slice aL aT aU] 171 (0,0)):=by rw[hV,←D];exact setRow_heap _ _ _ _ _ _ (Wn _ _)
 have ad:Below b3 w2 V:=by rw[hV,←D];exact below_setRow (Br.alloc Nl _) Nl _
 have a4:=hid (show Below o w V from al.out.trans (ad.mono (by omega)));have Z:=(ad.block o (by omega)).trans ab.out;have ac:=(ad.block (o+1) (by omega)).trans aa.out;have af:=(ad.block b2 (by omega)).trans an.out;have a9:=hid (aX.out V W.heap.size (.slice aO aP aI) (.slice aL aT aU) (ZH bb.out (D▸ad)) (ZH be.out (D▸ad)));have bx:b2<b3:=by omega
 have bm:b3<V.heap.size:=(Ai aA).1;have bf:o<V.heap.size:=by omega
 rw[D];have c0:V.cell? ⟨o,0,none⟩=some (.int .i64 k):=qd Z 0;have aW:=hid D;clear hV ad al ab aa an aH D aX bb be bk;go_wp2_with (refine L171 b3 rfl aA ?_)
 refine a9.out.mono ?_;rintro e w3 ⟨⟨bv,rfl,aN⟩,D⟩;obtain⟨a5,n5,k5,rfl⟩:=qs aN;have ak:=qf Z D;have ab:=hid ak;have aa:=hid (qf ac D);have ao:=qf af D;have an:=hid ao;have bl:=D.size;have a3:=hid (ownsRow_le aN (show o≤V.heap.size by omega));have bc:=hid (show Below o w w3 from a4.out.trans (D.mono (by omega)));have c0:w3.cell? ⟨o,0,none⟩=some (.int .i64 k):=qd ak 0;have c5:w3.cell? ⟨o,5,none⟩=some (.int .i64 i):=qd ak 5;have d4:w3.cell? ⟨b2,4,none⟩=some (.bool q4):=qd ao 4;have bg:o+1<w3.heap.size∧o<w3.heap.size∧b2<w3.heap.size:=by omega
 clear D aN Z ac af aA ak ao a9 a4 bl aW bf bm;go_upto_region 5 with(fail)
 refine qm ?_;intro U hU;obtain⟨q,ar⟩:=Ex w3.heap.size;have aR:U.heap[q]? =some (.cells #[.int .i64 k,.slice a5 n5 k5,.slice none 0 0,.bool q4,.int .i64 i,.slice da dn dc] 73 (0,0)):=by rw[hU,←ar];exact Wn _ _
 have ai:Below q w3 U:=by rw[hU,←ar];exact Br.alloc Nl _
 rw[ar];have ag:=hid aR;have aj:=hid ((ai.block o (by omega)).trans ab.out);have ap:=hid ((ai.block (o+1) (by omega)).trans aa.out);have aD:=hid ((ai.block b2 (by omega)).trans an.out);have aw:=hid (show Below o w U from bc.out.trans (ai.mono (by omega)));have aq:=hid (qi a3.out (fun g _ g2=>ai.block g (by omega)));have bs:=(Ai aR).1;have bq:o+1<q∧o<U.heap.size∧o+1<U.heap.size∧b2<q∧b2<U.heap.size:=by omega
 have c1:U.cell? ⟨o,1,none⟩=some (.int .i64 d):=qd aj.out 1;have c4:U.cell? ⟨q,4,none⟩=some (.int .i64 i):=qd ag.out 4;have d5:U.cell? ⟨b2,5,none⟩=some (.bool q5):=qd aD.out 5;have f4:=frozen_of_row U q 4 _ _ ag.out;clear hU ar ai ab aa an bc a3 c0 c5 d4 bg aR;have bh: ∀(X:World),X.heap[o+1]? =some (.cells Ke 73 (0,0))→True:=fun _ _=>trivial
 clear bh;obtain⟨O,hO⟩:=Ex ((if q5 then d else i));have bi: ∃J:World,J=(if q5 then U.setCell ⟨q,4,none⟩ (.int .i64 d) else U)∧J.heap[q]? =some (.cells #[.int .i64 k,.slice a5 n5 k5,.slice none 0 0,.bool q4,.int .i64 O,.slice da dn dc] 73 (0,0))∧J.heap[o]? =some (.cells #[.int .i64 k,.int .i64 d,.int .i64 f,.int .i64 p,.int .u32 l,.int .i64 i,.slice G r I,.slice sa sl sc,.slice pa pl pc] 26 (0,0))∧
   J.heap[o+1]? =some (.cells Ke 73 (0,0))∧Below o w J∧J.ownsRow o 5 1 (.slice a5 n5 k5) (mB (TreeV.big ⟨k,d,f,p,l,i,G,r,I,sa,sl,sc,pa,pl,pc⟩)) (BL.map qo):=by
  rw[HB.out]
  cases q5
  ·simp only[Bool.false_eq_true,if_false]at hO⊢;subst hO;exact⟨U,rfl,ag.out,aj.out,ap.out,aw.out,aq.out⟩
  ·simp only[if_true]at hO⊢;subst hO;exact⟨_,rfl,heap_setCell_same U q 4 _ _ (.int .i64 d) ag.out,(heap_setCell_other U ⟨q,4,none⟩ o (.int .i64 d) (show o≠q by omega)).trans aj.out,(heap_setCell_other U ⟨q,4,none⟩ (o+1) (.int .i64 d) (show o+1≠q by omega)).trans ap.out,aw.out.setCell (show o≤q by omega) _,Qk aq.out ag.out 4 (.int .i64 d) (by decide)⟩
 obtain⟨J,a8,e1,e2,e3,e4,e5⟩:=bi;have G1:=hid e1;have G2:=hid e2;have G3:=hid e3;have G4:=hid e4;have G5:=hid e5;have bt:q<J.heap.size∧o<J.heap.size∧o+1<J.heap.size:=by
  have:=(Ai e1).1
  omega
 have av:Hid (TreeV.outN ⟨k,d,f,p,l,i,G,r,I,sa,sl,sc,pa,pl,pc⟩ q5=O):=hid hO;have aM:=hid a8;clear a8 e1 e2 e3 e4 e5 hO;have aZ:qdU row (.slice G r I)=if row=0 then .slice G r I else .slice none 0 0:=rfl
 have bz:=hid aZ;clear aZ
 cases q5
 all_goals go_upto_region 7 with(fail)
 all_goals first|rw[show U=J from aM.out.symm]|rw[show U.setCell ⟨q,4,none⟩ (.int .i64 d)=J from aM.out.symm]
 all_goals clear c1 c4 d5 f4 ag aj ap aD aw aq aM
 all_goals by_cases ax:row=0
 all_goals first
 | (
  have hq:((row:Int)==0)=false:=by rw[beq_eq_false_iff_ne];omega
  have aF:qdU row (.slice G r I)= .slice none 0 0:=if_neg ax;go_wp2_with (first|(refine L73 q rfl G1.out ?_)|((with_reducible show wpList _ _ _ (Oper.mk none (Op.store 73 _ _) _ _ _ _::_) _ _);refine wpList_store_row rfl 73 _ _ rfl (o+1) #[.int .i64 k,.slice a5 n5 k5,.slice none 0 0,.bool q4,.int .i64 O,.slice da dn dc] rfl rfl 73 _ G3.out (by kernel_rfl) rfl (by simp[Value.oneCell']) ?_))
  exact Bp (results_cell_row rfl _ _ _ _ _ _ _ rfl (setRow_heap _ _ _ _ _ _ G3.out) Tryz.underlying73 rfl (by kernel_rfl)) rfl (by(try rw[ae]);rw[av.out];(try rw[aF]);exact⟨_,rfl,Qg G5.out G3.out (by decide),below_setRow G4.out (by omega) _⟩))
 | (
  subst ax;have aF:qdU 0 (.slice G r I)= .slice G r I:=rfl;have c6:J.cell? ⟨o,6,none⟩=some (.slice G r I):=qd G2.out 6;have c2:J.cell? ⟨q,2,none⟩=some (.slice none 0 0):=qd G1.out 2;have f2:=frozen_of_row J q 2 _ _ G1.out;go_upto_region 9 with(fail)
  have K1:=hid (heap_setCell_same J q 2 _ _ (.slice G r I) G1.out);have K3:=hid ((heap_setCell_other J ⟨q,2,none⟩ (o+1) (.slice G r I) (show o+1≠q by omega)).trans G3.out);have K4:=hid (show Below o w (J.setCell ⟨q,2,none⟩ (.slice G r I)) from G4.out.setCell (show o≤q by omega) _);have K5:=hid (Qk G5.out G1.out 2 (.slice G r I) (by decide));clear c6 c2 f2;generalize J.setCell ⟨q,2,none⟩ (.slice G r I)=U7 at*;go_wp2_with (first|(refine L73 q rfl K1.out ?_)|((with_reducible show wpList _ _ _ (Oper.mk none (Op.store 73 _ _) _ _ _ _::_) _ _);refine wpList_store_row rfl 73 _ _ rfl (o+1) #[.int .i64 k,.slice a5 n5 k5,.slice G r I,.bool q4,.int .i64 O,.slice da dn dc] rfl rfl 73 _ K3.out (by kernel_rfl) rfl (by simp[Value.oneCell']) ?_))
  exact Bp (results_cell_row rfl _ _ _ _ _ _ _ rfl (setRow_heap _ _ _ _ _ _ K3.out) Tryz.underlying73 rfl (by kernel_rfl)) rfl (by(try rw[ae]);rw[av.out];(try rw[aF]);exact⟨_,rfl,Qg K5.out K3.out (by decide),below_setRow K4.out (by omega) _⟩))
end Go.Proofs.YthjoojnlnlmljaaGreat
