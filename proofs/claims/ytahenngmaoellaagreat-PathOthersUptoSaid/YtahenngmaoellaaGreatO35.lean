/- Lemmas. No condition. -/
import Derived.Test.YtahenngmaoellaaGreatO34
import Derived.Test.YtahenngmaoellaaGreatO33
set_option linter.all false
set_option maxRecDepth 100000
set_option maxHeartbeats 0
namespace Go.Proofs.YtahenngmaoellaaGreat
open Go.ChangeShapes Go.WideShapes Go.ChangeAt Go.RowKit Go.Joins Go.Shelf Go.Maps
open Go.Lib (hid)
variable{b:Nat}{W:World}{z:List Int}{s:Value}
attribute [local go_sem] Oper.semAt_some
theorem qco {big o:Bool}{v:Nat->Nat}{i:Nat}(hi:2*sB big<=i): ∀k,k<=9->qo (QD big o v k) i=0
 | 0,_=>Jh big o v i
 | k+1,h=>by
  have e: ∀j,1<=j->j<=9->atB big j+szB big j<=2*sB big:=fun j a b=>by
   rcases(show j=1\/j=2\/j=3\/j=4\/j=5\/j=6\/j=7\/j=8\/j=9 by omega)with rfl|rfl|rfl|rfl|rfl|rfl|rfl|rfl|rfl<;>cases big<;>decide
  have:=e (k+1) (by omega) h
  rw[QB big o v h i,if_neg (fun q=>by omega)];exact qco hi k (by omega)
theorem Yj {W':World}(h:SideIs b W z s)(D:Below W.heap.size W W'):SideIs b W' z s:=by
 rcases h with h|⟨o,r⟩
 ·exact .inl h
 ·exact .inr ⟨o,qi r (fun g _ q=>D.block g q)⟩
theorem ZJ (h:SideIs b W z s)(q: ∀a∈z,0<=a/\a<=255): ∃o,Hold W s o/\o.length<=z.length/\(o=z\/o=[]/\ ∀a∈z,a=0):=by
 rcases h with⟨rfl,h⟩|⟨-,h⟩
 ·exact⟨[],Hold.nil W,Nat.zero_le _,.inr ⟨rfl,h⟩⟩
 ·exact⟨z,Qf h q,Nat.le_refl _,.inl rfl⟩
theorem qhQ (h: ∀a∈z,a=0)(i:Nat):qo z i=0:=by
 unfold qo;rw[Lg]
 cases e:z[i]? with
 | none=>rfl
 | some a=>exact h a (List.mem_of_getElem? e)
theorem qc5 {b:List Int}{p:Nat}(h:p+z.length<=b.length)(q: ∀a∈z,a=0)(r: ∀i,p<=i->i<p+z.length->qo b i=0)(i:Nat):qo (Qn b p z) i=qo b i:=by
 rw[Y1 h];split
 ·rename_i o;rw[qhQ q,r i o.1 o.2]
 ·rfl
theorem qjT {a b:List Int}(o:a.length=b.length)(h: ∀i,qo a i=qo b i):a=b:=by
 refine List.ext_getElem o fun i q r=>?_
 have:=h i
 unfold qo at this;simpa [Lg,q,r] using this
theorem qaR {big:Bool}{v:Nat->Nat}{z1 z2 o q:List Int}(r:z1.length<=sB big)(O:z2.length<=sB big)(I:o=z1\/o=[]/\ ∀a∈z1,a=0)(S:q=z2\/q=[]/\ ∀a∈z2,a=0):QV big v o q=QV big v z1 z2:=by
 have Y:4*sB big=mB big:=by cases big<;>decide
 have V:=Q0 big (v 7==0) v 9 (by omega);have D:o.length<=sB big:=by rcases I with rfl|⟨rfl, -⟩<;>simp[r]
 have J:q.length<=sB big:=by rcases S with rfl|⟨rfl, -⟩<;>simp[O]
 refine qjT (by rw[yC D J,yC r O]) fun i=>?_
 have a1: ∀i,qo (Qn (QD big (v 7==0) v 9) (2*sB big) o) i=qo (Qn (QD big (v 7==0) v 9) (2*sB big) z1) i:=fun i=>by
  rcases I with rfl|⟨rfl,h⟩
  ·rfl
  ·rw[zw,qc5 (by omega) h fun j U _=>qco U 9 (by omega)]
 have G: ∀y:List Int,y.length<=sB big->(Qn (QD big (v 7==0) v 9) (2*sB big) y).length=mB big:=fun y hy=>by rw[Qq (by omega),V]
 unfold QV;rcases S with rfl|⟨rfl,h⟩
 ·have m1:=G _ D;have Z:=G _ r;rw[Y1 (b:=Qn (QD big (v 7==0) v 9) (2*sB big) o) (by omega),Y1 (b:=Qn (QD big (v 7==0) v 9) (2*sB big) z1) (by omega),a1]
 ·rw[zw,a1,qc5 (by rw[G _ r];omega) h fun j U X=>?_];rw[Y1 (by omega),if_neg (by omega)];exact qco (by omega) 9 (by omega)
theorem qcQ (big:Bool)(v:Nat->Nat)(z1 z2:List Int)(G D:Value)(b:Nat)(w:World)(I:ParOk big v)(h1:SideIs b w z1 G)(h2:SideIs b w z2 D)(V: ∀a∈z1,0<=a/\a<=255)(Y: ∀a∈z2,0<=a/\a<=255)(o:z1.length<=sB big)(q:z2.length<=sB big):
  Calls Tryz.prog 144 #[.int .i64 (kB big),parN v G D] w fun e w'=>(∃r,e= .returned (.tuple #[r,.int .i64 0])/\w'.ownsRow w.heap.size 5 1 r (mB big) ((QV big v z1 z2).map qp))/\Below w.heap.size w w':=by
 obtain⟨U,Z,X,e1⟩:=ZJ h1 V;obtain⟨J,O,S,e2⟩:=ZJ h2 Y;rw[<-qaR o q e1 e2]
 cases big
 ·exact ja v U J G D w I Z O (Nat.le_trans X o) (Nat.le_trans S q)
 ·exact jB v U J G D w I Z O (Nat.le_trans X o) (Nat.le_trans S q)
def qeb (row:Nat)(kv:Value):Value:=if row=0 then kv else .slice none 0 0
theorem jA (t:TreeV)(total:Nat)(h:t.err total=0)(hl:0<=t.l/\t.l<=4294967295)(ht:(total:Int)<=18446744073709551615)(z1 z2:List Int)(row at_:Nat)(hr:row<=255)(ha:at_<281474976710656)(ay:t.there total row at_)(S:SpotV)(hS:t.spot total row at_=S)(da:Option Addr)(dn dc:Nat)(w:World)
  (h1:Hold w (.slice t.sa t.sl t.sc) z1) (h2:Hold w (.slice t.pa t.pl t.pc) z2):
  Calls Tryz.prog 113 #[t.val,.int .u64 total,.int .i64 row,.int .u64 at_,.slice da dn dc] w fun e w'=> ∃bv,e= .returned (.agg (Yf t.k bv (qeb row (.slice t.ka t.kl t.kc)) S.last (t.outN S.root) (.slice da dn dc)))/\
   w'.ownsRow w.heap.size 5 1 bv (mB t.big) ((t.blk z1 z2 row at_).map qp)/\Below w.heap.size w w':=by
 obtain⟨o,ae⟩:=Ex w.heap.size;have h0:=(Qw hl h).2.2.2;have bA:z1.length=t.sl:=by obtain⟨a,c,e, -, -⟩:=h1.slice;simp only[Value.slice.injEq]at e;exact e.2.1.symm
 have bw:z2.length=t.pl:=by obtain⟨a,c,e, -, -⟩:=h2.slice;simp only[Value.slice.injEq]at e;exact e.2.1.symm
 have bn:=qn h0;have bo:=QW h0;have bg:sB t.big<=16:=by cases t.big<;>decide
 have ah:=hid (fun(W:World)=>yQ t hl total ht row at_ W);have bd:t.spotR total row at_=S:=by unfold TreeV.spotR;rw[if_pos ⟨h,ay⟩];exact hS
 have aZ:t.spotE total row at_=0:=by unfold TreeV.spotE;rw[if_neg (by simp[h]),if_pos ay]
 rw[bd,aZ]at ah;obtain⟨q0,q1,q2,q3,q4,q5⟩:=S;unfold SpotV.val at ah;simp only at ah
 have aX:=hid (fun(W:World) (hb:Below o w W)=>JZ t total row at_ ah W (hid (h1.below (ae▸hb)).holds8) (hid (h2.below (ae▸hb)).holds8) (hid h1.1) (hid h2.1) (hid (by omega)) (hid (by omega)));have aU:=hid (fun(W:World) (b:Nat) (s p:Value) (az:SideIs b W z1 s) (aI:SideIs b W z2 p)=>qcQ t.big (t.vN row at_) z1 z2 s p b W (jQ h0 hl hr ha) az aI h1.1 h2.1 (by omega) (by omega));simp only[TreeV.parN h0 hl,yX h0]at aU;have HB:=hid (show t.blk z1 z2 row at_=QV t.big (t.vN row at_) z1 z2 from rfl);generalize t.blk z1 z2 row at_=BL at*;obtain⟨k,d,f,p,l,i,I,r,G,sa,sl,sc,pa,pl,pc⟩:=t;unfold TreeV.val at*;unfold JK at aX;simp only at*
 clear bn bo h h0 hl h1 h2 ay hS bd aZ bg hr ha;go_enter Tryz.func113,Tryz.ntmps113
 go_upto_region 1 with(fail)
 have Z:((w.alloc (.cells #[.int .i64 k,.int .i64 d,.int .i64 f,.int .i64 p,.int .u32 l,.int .i64 i,.slice I r G,.slice sa sl sc,.slice pa pl pc] 26)).alloc (.cells Ke 73)).heap[o]? =some (.cells #[.int .i64 k,.int .i64 d,.int .i64 f,.int .i64 p,.int .u32 l,.int .i64 i,.slice I r G,.slice sa sl sc,.slice pa pl pc] 26 (0,0)):=(Bh _ _ _ (by simp;omega)).trans (qe _ _ ae.symm);have ac:((w.alloc (.cells #[.int .i64 k,.int .i64 d,.int .i64 f,.int .i64 p,.int .u32 l,.int .i64 i,.slice I r G,.slice sa sl sc,.slice pa pl pc] 26)).alloc (.cells Ke 73)).heap[o+1]? =some (.cells Ke 73 (0,0)):=qe _ _ (by simp;omega);have a3:Below o w ((w.alloc (.cells #[.int .i64 k,.int .i64 d,.int .i64 f,.int .i64 p,.int .u32 l,.int .i64 i,.slice I r G,.slice sa sl sc,.slice pa pl pc] 26)).alloc (.cells Ke 73)):=by rw[<-ae];exact(Br.alloc Nl _).alloc (by simp) _
 have bm:((w.alloc (.cells #[.int .i64 k,.int .i64 d,.int .i64 f,.int .i64 p,.int .u32 l,.int .i64 i,.slice I r G,.slice sa sl sc,.slice pa pl pc] 26)).alloc (.cells Ke 73)).heap.size=o+2:=by simp;omega
 generalize ((w.alloc (.cells #[.int .i64 k,.int .i64 d,.int .i64 f,.int .i64 p,.int .u32 l,.int .i64 i,.slice I r G,.slice sa sl sc,.slice pa pl pc] 26)).alloc (.cells Ke 73))=wA at*;go_wp2_with (refine L26 o rfl Z ?_)
 refine(ah.out wA).mono ?_;rintro e w1 ⟨rfl,al⟩;have ax:=qf Z al;have aM:=qf ac al;have a9:Below o w w1:=a3.trans (al.mono (by omega));have az:=al.size;have am:=hid a9;have aa:=hid ax;have ab:=hid aM;clear al Z ac a3 ax aM a9;go_upto_region 2 with(first|((with_reducible show wpList _ _ _ (Oper.mk none (Op.store 96 _ _) _ _ _ _::_) _ _);refine wpList_store_row rfl 96 _ _ rfl w1.heap.size #[.int .i64 q0,.int .u64 q1,.int .u64 q2,.int .u64 q3,.bool q4,.bool q5] rfl rfl 96 _ (Wn _ _) (by kernel_rfl) rfl (by simp[Value.oneCell']) ?_))
 refine qm ?_;intro W hW;obtain⟨b2,Y⟩:=Ex w1.heap.size;have ai:W.heap[b2]? =some (.cells #[.int .i64 q0,.int .u64 q1,.int .u64 q2,.int .u64 q3,.bool q4,.bool q5] 96 (0,0)):=by rw[hW,<-Y];exact setRow_heap _ _ _ _ _ _ (Wn _ _)
 have au:Below b2 w1 W:=by rw[hW,<-Y];exact below_setRow (Br.alloc Nl _) Nl _
 have av:Below o w W:=am.out.trans (au.mono (by omega));have Z:=(au.block o (by omega)).trans aa.out;have ac:=(au.block (o+1) (by omega)).trans ab.out;have bz:o+1<b2:=by omega
 have bs:b2<W.heap.size:=(Ai ai).1;rw[Y];have aJ:=hid Y;clear hW au am aa ab bm az Y;go_wp2_with (refine L26 o rfl Z ?_)
 refine(aX.out W av).mono ?_;rintro e w2 ⟨sv,pv,rfl,aw,aK,Y⟩;have aW:=qf Z Y;have aN:=qf ac Y;have aL:=qf ai Y;have a8:Below o w w2:=av.trans (Y.mono (by omega));have aI:=Y.size;have am:=hid a8;have aa:=hid aW;have ab:=hid aN;have an:=hid aL;have bb:=hid aw;have be:=hid aK;obtain⟨aG,aS,aF,rfl⟩: ∃a n c,sv= .slice a n c:=by
  rcases aw with⟨rfl, -⟩|⟨-,ho⟩
  ·exact⟨_,_,_,rfl⟩
  ·exact qr ho
 obtain⟨aP,aT,aE,rfl⟩: ∃a n c,pv= .slice a n c:=by
  rcases aK with⟨rfl, -⟩|⟨-,ho⟩
  ·exact⟨_,_,_,rfl⟩
  ·exact qr ho
 have bh:b2<w2.heap.size:=by omega
 clear Y Z ac ai aW aN aL a8 av aX ah aw aK aJ;go_upto_region 3 with(first|((with_reducible show wpList _ _ _ (Oper.mk none (Op.store 179 _ _) _ _ _ _::_) _ _);refine wpList_store_row rfl 179 _ _ rfl w2.heap.size #[.int .i64 d,.int .i64 r,.int .i64 f,.int .i64 p,.int .u32 l,.int .u64 at_,.int .u32 0,.int .i64 row,.int .i64 i,.slice aG aS aF,.slice aP aT aE] rfl rfl 179 _ (Wn _ _) (by kernel_rfl) rfl (by simp[Value.oneCell']) ?_))
 refine qm ?_;intro V hV;obtain⟨b3,D⟩:=Ex w2.heap.size;have aH:V.heap[b3]? =some (.cells #[.int .i64 d,.int .i64 r,.int .i64 f,.int .i64 p,.int .u32 l,.int .u64 at_,.int .u32 0,.int .i64 row,.int .i64 i,.slice aG aS aF,.slice aP aT aE] 179 (0,0)):=by rw[hV,<-D];exact setRow_heap _ _ _ _ _ _ (Wn _ _)
 have ad:Below b3 w2 V:=by rw[hV,<-D];exact below_setRow (Br.alloc Nl _) Nl _
 have a7:=hid (show Below o w V from am.out.trans (ad.mono (by omega)));have Z:=(ad.block o (by omega)).trans aa.out;have ac:=(ad.block (o+1) (by omega)).trans ab.out;have ai:=(ad.block b2 (by omega)).trans an.out;have a4:=hid (aU.out V W.heap.size (.slice aG aS aF) (.slice aP aT aE) (Yj bb.out (D▸ad)) (Yj be.out (D▸ad)));have bu:b2<b3:=by omega
 have bp:b3<V.heap.size:=(Ai aH).1;have bk:o<V.heap.size:=by omega
 rw[D];have c0:V.cell? ⟨o,0,none⟩=some (.int .i64 k):=qd Z 0;have aJ:=hid D;clear hV ad am aa ab an aI D aU bb be bh;go_wp2_with (refine L179 b3 rfl aH ?_)
 refine a4.out.mono ?_;rintro e w3 ⟨⟨bv,rfl,aD⟩,D⟩;obtain⟨a5,n5,k5,rfl⟩:=qr aD;have ak:=qf Z D;have aa:=hid ak;have ab:=hid (qf ac D);have ao:=qf ai D;have an:=hid ao;have bl:=D.size;have ba:=hid (ownsRow_le aD (show o<=V.heap.size by omega));have a6:=hid (show Below o w w3 from a7.out.trans (D.mono (by omega)));have c0:w3.cell? ⟨o,0,none⟩=some (.int .i64 k):=qd ak 0;have c5:w3.cell? ⟨o,5,none⟩=some (.int .i64 i):=qd ak 5;have d4:w3.cell? ⟨b2,4,none⟩=some (.bool q4):=qd ao 4;have bf:o+1<w3.heap.size/\o<w3.heap.size/\b2<w3.heap.size:=by omega
 clear D aD Z ac ai aH ak ao a4 a7 bl aJ bk bp;go_upto_region 5 with(fail)
 refine qm ?_;intro U hU;obtain⟨q,ar⟩:=Ex w3.heap.size;have aA:U.heap[q]? =some (.cells #[.int .i64 k,.slice a5 n5 k5,.slice none 0 0,.bool q4,.int .i64 i,.slice da dn dc] 73 (0,0)):=by rw[hU,<-ar];exact Wn _ _
 have af:Below q w3 U:=by rw[hU,<-ar];exact Br.alloc Nl _
 rw[ar];have ag:=hid aA;have aj:=hid ((af.block o (by omega)).trans aa.out);have ap:=hid ((af.block (o+1) (by omega)).trans ab.out);have aQ:=hid ((af.block b2 (by omega)).trans an.out);have aR:=hid (show Below o w U from a6.out.trans (af.mono (by omega)));have aq:=hid (qi ba.out (fun g _ g2=>af.block g (by omega)));have bt:=(Ai aA).1;have bq:o+1<q/\o<U.heap.size/\o+1<U.heap.size/\b2<q/\b2<U.heap.size:=by omega
 have c1:U.cell? ⟨o,1,none⟩=some (.int .i64 d):=qd aj.out 1;have c4:U.cell? ⟨q,4,none⟩=some (.int .i64 i):=qd ag.out 4;have d5:U.cell? ⟨b2,5,none⟩=some (.bool q5):=qd aQ.out 5;have f4:=frozen_of_row U q 4 _ _ ag.out;clear hU ar af aa ab an a6 ba c0 c5 d4 bf aA;have bj: ∀(X:World),X.heap[o+1]? =some (.cells Ke 73 (0,0))->True:=fun _ _=>trivial
 clear bj;obtain⟨O,hO⟩:=Ex ((if q5 then d else i));have bi: ∃J:World,J=(if q5 then U.setCell ⟨q,4,none⟩ (.int .i64 d) else U)/\J.heap[q]? =some (.cells #[.int .i64 k,.slice a5 n5 k5,.slice none 0 0,.bool q4,.int .i64 O,.slice da dn dc] 73 (0,0))/\J.heap[o]? =some (.cells #[.int .i64 k,.int .i64 d,.int .i64 f,.int .i64 p,.int .u32 l,.int .i64 i,.slice I r G,.slice sa sl sc,.slice pa pl pc] 26 (0,0))/\
   J.heap[o+1]? =some (.cells Ke 73 (0,0))/\Below o w J/\J.ownsRow o 5 1 (.slice a5 n5 k5) (mB (TreeV.big ⟨k,d,f,p,l,i,I,r,G,sa,sl,sc,pa,pl,pc⟩)) (BL.map qp):=by
  rw[HB.out]
  cases q5
  ·simp only[Bool.false_eq_true,if_false]at hO⊢;subst hO;exact⟨U,rfl,ag.out,aj.out,ap.out,aR.out,aq.out⟩
  ·simp only[if_true]at hO⊢;subst hO;exact⟨_,rfl,heap_setCell_same U q 4 _ _ (.int .i64 d) ag.out,(heap_setCell_other U ⟨q,4,none⟩ o (.int .i64 d) (show o≠q by omega)).trans aj.out,(heap_setCell_other U ⟨q,4,none⟩ (o+1) (.int .i64 d) (show o+1≠q by omega)).trans ap.out,aR.out.setCell (show o<=q by omega) _,Ql aq.out ag.out 4 (.int .i64 d) (by decide)⟩
 obtain⟨J,aY,e1,e2,e3,e4,e5⟩:=bi;have G1:=hid e1;have G2:=hid e2;have G3:=hid e3;have G4:=hid e4;have G5:=hid e5;have br:q<J.heap.size/\o<J.heap.size/\o+1<J.heap.size:=by
  have:=(Ai e1).1
  omega
 have aV:Hid (TreeV.outN ⟨k,d,f,p,l,i,I,r,G,sa,sl,sc,pa,pl,pc⟩ q5=O):=hid hO;have aB:=hid aY;clear aY e1 e2 e3 e4 e5 hO;have bc:qeb row (.slice I r G)=if row=0 then .slice I r G else .slice none 0 0:=rfl
 have bx:=hid bc;clear bc
 cases q5
 all_goals go_upto_region 7 with(fail)
 all_goals first|rw[show U=J from aB.out.symm]|rw[show U.setCell ⟨q,4,none⟩ (.int .i64 d)=J from aB.out.symm]
 all_goals clear c1 c4 d5 f4 ag aj ap aQ aR aq aB
 all_goals by_cases aO:row=0
 all_goals first
 | (
  have hq:((row:Int)==0)=false:=by rw[beq_eq_false_iff_ne];omega
  have aC:qeb row (.slice I r G)= .slice none 0 0:=if_neg aO;go_wp2_with (first|(refine L73 q rfl G1.out ?_)|((with_reducible show wpList _ _ _ (Oper.mk none (Op.store 73 _ _) _ _ _ _::_) _ _);refine wpList_store_row rfl 73 _ _ rfl (o+1) #[.int .i64 k,.slice a5 n5 k5,.slice none 0 0,.bool q4,.int .i64 O,.slice da dn dc] rfl rfl 73 _ G3.out (by kernel_rfl) rfl (by simp[Value.oneCell']) ?_))
  exact Bp (results_cell_row rfl _ _ _ _ _ _ _ rfl (setRow_heap _ _ _ _ _ _ G3.out) Tryz.underlying73 rfl (by kernel_rfl)) rfl (by(try rw[ae]);rw[aV.out];(try rw[aC]);exact⟨_,rfl,Qj G5.out G3.out (by decide),below_setRow G4.out (by omega) _⟩))
 | (
  subst aO;have aC:qeb 0 (.slice I r G)= .slice I r G:=rfl;have c6:J.cell? ⟨o,6,none⟩=some (.slice I r G):=qd G2.out 6;have c2:J.cell? ⟨q,2,none⟩=some (.slice none 0 0):=qd G1.out 2;have f2:=frozen_of_row J q 2 _ _ G1.out;go_upto_region 9 with(fail)
  have K1:=hid (heap_setCell_same J q 2 _ _ (.slice I r G) G1.out);have K3:=hid ((heap_setCell_other J ⟨q,2,none⟩ (o+1) (.slice I r G) (show o+1≠q by omega)).trans G3.out);have K4:=hid (show Below o w (J.setCell ⟨q,2,none⟩ (.slice I r G)) from G4.out.setCell (show o<=q by omega) _);have K5:=hid (Ql G5.out G1.out 2 (.slice I r G) (by decide));clear c6 c2 f2;generalize J.setCell ⟨q,2,none⟩ (.slice I r G)=U7 at*;go_wp2_with (first|(refine L73 q rfl K1.out ?_)|((with_reducible show wpList _ _ _ (Oper.mk none (Op.store 73 _ _) _ _ _ _::_) _ _);refine wpList_store_row rfl 73 _ _ rfl (o+1) #[.int .i64 k,.slice a5 n5 k5,.slice I r G,.bool q4,.int .i64 O,.slice da dn dc] rfl rfl 73 _ K3.out (by kernel_rfl) rfl (by simp[Value.oneCell']) ?_))
  exact Bp (results_cell_row rfl _ _ _ _ _ _ _ rfl (setRow_heap _ _ _ _ _ _ K3.out) Tryz.underlying73 rfl (by kernel_rfl)) rfl (by(try rw[ae]);rw[aV.out];(try rw[aC]);exact⟨_,rfl,Qj K5.out K3.out (by decide),below_setRow K4.out (by omega) _⟩))
