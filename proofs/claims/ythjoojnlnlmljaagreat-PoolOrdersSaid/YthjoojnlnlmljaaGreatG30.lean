/- A node's call, by the reference's tree. No condition. -/
import Derived.Test.YthjoojnlnlmljaaGreatG24
import Derived.Test.YthjoojnlnlmljaaGreatG28
import Derived.Test.YthjoojnlnlmljaaGreatG29
set_option linter.all false
set_option maxRecDepth 100000
set_option maxHeartbeats 8000000
namespace Go.Proofs.YthjoojnlnlmljaaGreat
open Go.ChangeShapes Go.WideShapes Go.ChangeAt Go.RowKit Go.Joins Go.Shelf Go.Maps
open Go.Lib (hid)
attribute [local go_sem] Oper.semAt_some
theorem qbz {big o:Bool}{v:Nat→Nat}{i:Nat}(q:2*sB big≤i): ∀k,k≤9→qr (Qz big o v k) i=0
 | 0,_=>jy big o v i
 | k+1,h=>by
  have e: ∀j,1≤j→j≤9→atB big j+szB big j≤2*sB big:=fun j a b=>by
   rcases(show j=1∨j=2∨j=3∨j=4∨j=5∨j=6∨j=7∨j=8∨j=9 by omega)with rfl|rfl|rfl|rfl|rfl|rfl|rfl|rfl|rfl<;>cases big<;>decide
  have:=e (k+1) (by omega) h
  rw[Qx big o v h i,if_neg (fun D=>by omega)];exact qbz q k (by omega)
theorem Zd {b:Nat}{W W':World}{z:List Int}{s:Value}(h:SideIs b W z s)(q:Below W.heap.size W W'):SideIs b W' z s:=by
 rcases h with h|⟨G,o⟩
 ·exact .inl h
 ·exact .inr ⟨G,qk o (fun g _ D=>q.block g D)⟩
theorem Jm {b:Nat}{W:World}{z:List Int}{s:Value}(h:SideIs b W z s)(q: ∀a∈z,0≤a∧a≤255): ∃o,Hold W s o∧o.length≤z.length∧(o=z∨o=[]∧ ∀a∈z,a=0):=by
 rcases h with⟨rfl,h⟩|⟨-,h⟩
 ·exact⟨[],Hold.nil W,Nat.zero_le _,.inr ⟨rfl,h⟩⟩
 ·exact⟨z,Qq h q,Nat.le_refl _,.inl rfl⟩
theorem qgD {z:List Int}(h: ∀a∈z,a=0)(i:Nat):qr z i=0:=by
 unfold qr;rw[Lg]
 cases e:z[i]? with
 | none=>rfl
 | some a=>exact h a (List.mem_of_getElem? e)
theorem qce {b z:List Int}{p:Nat}(h:p+z.length≤b.length)(D: ∀a∈z,a=0)(q: ∀i,p≤i→i<p+z.length→qr b i=0)(i:Nat):qr (Qi b p z) i=qr b i:=by
 rw[Yr h];split
 ·rename_i o;rw[qgD D,q i o.1 o.2]
 ·rfl
theorem qit {a b:List Int}(q:a.length=b.length)(h: ∀i,qr a i=qr b i):a=b:=by
 refine List.ext_getElem q fun i D o=>?_
 have:=h i
 unfold qr at this;simpa [Lg,D,o] using this
theorem qcD {big:Bool}{v:Nat→Nat}{z1 z2 o q:List Int}(D:z1.length≤sB big)(J:z2.length≤sB big)(U:o=z1∨o=[]∧ ∀a∈z1,a=0)(O:q=z2∨q=[]∧ ∀a∈z2,a=0):QR big v o q=QR big v z1 z2:=by
 have hm:4*sB big=mB big:=by cases big<;>decide
 have Y:=QP big (v 7==0) v 9 (by omega);have G:o.length≤sB big:=by rcases U with rfl|⟨rfl, -⟩<;>simp[D]
 have V:q.length≤sB big:=by rcases O with rfl|⟨rfl, -⟩<;>simp[J]
 refine qit (by rw[yh G V,yh D J]) fun i=>?_
 have a1: ∀i,qr (Qi (Qz big (v 7==0) v 9) (2*sB big) o) i=qr (Qi (Qz big (v 7==0) v 9) (2*sB big) z1) i:=fun i=>by
  rcases U with rfl|⟨rfl,h⟩
  ·rfl
  ·rw[YP,qce (by omega) h fun j X _=>qbz X 9 (by omega)]
 have I: ∀y:List Int,y.length≤sB big→(Qi (Qz big (v 7==0) v 9) (2*sB big) y).length=mB big:=fun y hy=>by rw[Qk (by omega),Y]
 unfold QR;rcases O with rfl|⟨rfl,h⟩
 ·have m1:=I _ G;have m2:=I _ D;rw[Yr (b:=Qi (Qz big (v 7==0) v 9) (2*sB big) o) (by omega),Yr (b:=Qi (Qz big (v 7==0) v 9) (2*sB big) z1) (by omega),a1]
 ·rw[YP,a1,qce (by rw[I _ D];omega) h fun j X Z=>?_];rw[Yr (by omega),if_neg (by omega)];exact qbz (by omega) 9 (by omega)
theorem qbY (big:Bool)(v:Nat→Nat)(z1 z2:List Int)(G D:Value)(b:Nat)(w:World)(Z:ParOk big v)(h1:SideIs b w z1 G)(h2:SideIs b w z2 D)(aa: ∀a∈z1,0≤a∧a≤255)(U: ∀a∈z2,0≤a∧a≤255)(q:z1.length≤sB big)(o:z2.length≤sB big):
  Calls Tryz.prog 138 #[.int .i64 (kB big),parN v G D] w fun e w'=>(∃r,e= .returned (.tuple #[r,.int .i64 0])∧w'.ownsRow w.heap.size 5 1 r (mB big) ((QR big v z1 z2).map qt))∧Below w.heap.size w w':=by
 obtain⟨J,I,X,e1⟩:=Jm h1 aa;obtain⟨Y,O,V,e2⟩:=Jm h2 U;rw[←qcD q o e1 e2]
 cases big
 ·exact Zv v J Y G D w Z I O (Nat.le_trans X q) (Nat.le_trans V o)
 ·exact ZT v J Y G D w Z I O (Nat.le_trans X q) (Nat.le_trans V o)
def qdi (row:Nat)(kv:Value):Value:=if row=0 then kv else .slice none 0 0
theorem ZR (t:TreeV)(total:Nat)(h:t.err total=0)(hl:0≤t.l∧t.l≤4294967295)(ht:(total:Int)≤18446744073709551615)(z1 z2:List Int)(row at_:Nat)(hr:row≤255)(ha:at_<281474976710656)(aE:t.there total row at_)(S:SpotV)(hS:t.spot total row at_=S)(da:Option Addr)(dn dc:Nat)(w:World)
  (h1:Hold w (.slice t.sa t.sl t.sc) z1) (h2:Hold w (.slice t.pa t.pl t.pc) z2):
  Calls Tryz.prog 104 #[t.val,.int .u64 total,.int .i64 (row:Nat),.int .u64 (at_:Nat),.slice da dn dc] w fun e w'=> ∃bv,e= .returned (.agg (Yb t.k bv (qdi row (.slice t.ka t.kl t.kc)) S.last (t.outN S.root) (.slice da dn dc)))∧
   w'.ownsRow w.heap.size 5 1 bv (mB t.big) ((t.blk z1 z2 row at_).map qt)∧Below w.heap.size w w':=by
 obtain⟨o,ah⟩:=Ex w.heap.size;have h0:=(QF hl h).2.2.2;have bC:z1.length=t.sl:=by obtain⟨a,c,e, -, -⟩:=h1.slice;simp only[Value.slice.injEq]at e;exact e.2.1.symm
 have bx:z2.length=t.pl:=by obtain⟨a,c,e, -, -⟩:=h2.slice;simp only[Value.slice.injEq]at e;exact e.2.1.symm
 have bm:=qq h0;have bp:=yz h0;have bg:sB t.big≤16:=by cases t.big<;>decide
 have aj:=hid (fun(W:World)=>ZS t hl total ht row at_ W);have ba:t.spotR total row at_=S:=by unfold TreeV.spotR;rw[if_pos ⟨h,aE⟩];exact hS
 have a4:t.spotE total row at_=0:=by unfold TreeV.spotE;rw[if_neg (by simp[h]),if_pos aE]
 rw[ba,a4]at aj;obtain⟨q0,q1,q2,q3,q4,q5⟩:=S;unfold SpotV.val at aj;simp only at aj
 have aM:=hid (fun(W:World) (hb:Below o w W)=>qcX t total row at_ aj W (hid (h1.below (ah▸hb)).holds8) (hid (h2.below (ah▸hb)).holds8) (hid h1.1) (hid h2.1) (hid (by omega)) (hid (by omega)));have aw:=hid (fun(W:World) (b:Nat) (s p:Value) (aL:SideIs b W z1 s) (aA:SideIs b W z2 p)=>qbY t.big (t.vN row at_) z1 z2 s p b W (qaG h0 hl hr ha) aL aA h1.1 h2.1 (by omega) (by omega));simp only[TreeV.parN h0 hl,yQ h0]at aw;have HB:=hid (show t.blk z1 z2 row at_=QR t.big (t.vN row at_) z1 z2 from rfl);generalize t.blk z1 z2 row at_=BL at*;obtain⟨k,d,f,p,l,i,I,D,J,sa,sl,sc,pa,pl,pc⟩:=t;unfold TreeV.val at*;unfold J1 at aM;simp only at*
 clear bm bp h h0 hl h1 h2 aE hS ba a4 bg hr ha;go_enter Tryz.func104,Tryz.ntmps104
 go_upto_region 1 with(fail)
 have aa:((w.alloc (.cells #[.int .i64 k,.int .i64 d,.int .i64 f,.int .i64 p,.int .u32 l,.int .i64 i,.slice I D J,.slice sa sl sc,.slice pa pl pc] 26)).alloc (.cells #[.int .i64 0,.slice none 0 0,.slice none 0 0,.bool false,.int .i64 0,.slice none 0 0] 73)).heap[o]? =some (.cells #[.int .i64 k,.int .i64 d,.int .i64 f,.int .i64 p,.int .u32 l,.int .i64 i,.slice I D J,.slice sa sl sc,.slice pa pl pc] 26 (0,0)):=(Bh _ _ _ (by simp;omega)).trans (qe _ _ ah.symm);have ac:((w.alloc (.cells #[.int .i64 k,.int .i64 d,.int .i64 f,.int .i64 p,.int .u32 l,.int .i64 i,.slice I D J,.slice sa sl sc,.slice pa pl pc] 26)).alloc (.cells #[.int .i64 0,.slice none 0 0,.slice none 0 0,.bool false,.int .i64 0,.slice none 0 0] 73)).heap[o+1]? =some (.cells #[.int .i64 0,.slice none 0 0,.slice none 0 0,.bool false,.int .i64 0,.slice none 0 0] 73 (0,0)):=qe _ _ (by simp;omega);have a7:Below o w ((w.alloc (.cells #[.int .i64 k,.int .i64 d,.int .i64 f,.int .i64 p,.int .u32 l,.int .i64 i,.slice I D J,.slice sa sl sc,.slice pa pl pc] 26)).alloc (.cells #[.int .i64 0,.slice none 0 0,.slice none 0 0,.bool false,.int .i64 0,.slice none 0 0] 73)):=by rw[←ah];exact(Br.alloc Nl _).alloc (by simp) _
 have bq:((w.alloc (.cells #[.int .i64 k,.int .i64 d,.int .i64 f,.int .i64 p,.int .u32 l,.int .i64 i,.slice I D J,.slice sa sl sc,.slice pa pl pc] 26)).alloc (.cells #[.int .i64 0,.slice none 0 0,.slice none 0 0,.bool false,.int .i64 0,.slice none 0 0] 73)).heap.size=o+2:=by simp;omega
 generalize ((w.alloc (.cells #[.int .i64 k,.int .i64 d,.int .i64 f,.int .i64 p,.int .u32 l,.int .i64 i,.slice I D J,.slice sa sl sc,.slice pa pl pc] 26)).alloc (.cells #[.int .i64 0,.slice none 0 0,.slice none 0 0,.bool false,.int .i64 0,.slice none 0 0] 73))=wA at*;go_wp2_with ((with_reducible show wpList _ _ _ (Oper.mk _ (Op.load 26 _) _ _ _ _::_) _ _);refine wpList_load_row rfl 26 _ rfl o rfl _ _ _ _ aa Tryz.underlying26 rfl (by kernel_rfl) ?_)
 refine(aj.out wA).mono ?_;rintro e w1 ⟨rfl,ao⟩;have aK:=qg aa ao;have az:=qg ac ao;have a8:Below o w w1:=a7.trans (ao.mono (by omega));have aL:=ao.size;have am:=hid a8;have ad:=hid aK;have ab:=hid az;clear ao aa ac a7 aK az a8;go_upto_region 2 with(first|((with_reducible show wpList _ _ _ (Oper.mk none (Op.store 96 _ _) _ _ _ _::_) _ _);refine wpList_store_row rfl 96 _ _ rfl w1.heap.size #[.int .i64 q0,.int .u64 q1,.int .u64 q2,.int .u64 q3,.bool q4,.bool q5] rfl rfl 96 _ (Wn _ _) (by kernel_rfl) rfl (by simp[Value.oneCell']) ?_))
 refine qm ?_;intro W hW;obtain⟨b2,Z⟩:=Ex w1.heap.size;have ag:W.heap[b2]? =some (.cells #[.int .i64 q0,.int .u64 q1,.int .u64 q2,.int .u64 q3,.bool q4,.bool q5] 96 (0,0)):=by rw[hW,←Z];exact setRow_heap _ _ _ _ _ _ (Wn _ _)
 have au:Below b2 w1 W:=by rw[hW,←Z];exact below_setRow (Br.alloc Nl _) Nl _
 have aQ:Below o w W:=am.out.trans (au.mono (by omega));have aa:=(au.block o (by omega)).trans ad.out;have ac:=(au.block (o+1) (by omega)).trans ab.out;have bz:o+1<b2:=by omega
 have bu:b2<W.heap.size:=(Ai ag).1;rw[Z];have aH:=hid Z;clear hW au am ad ab bq aL Z;go_wp2_with ((with_reducible show wpList _ _ _ (Oper.mk _ (Op.load 26 _) _ _ _ _::_) _ _);refine wpList_load_row rfl 26 _ rfl o rfl _ _ _ _ aa Tryz.underlying26 rfl (by kernel_rfl) ?_)
 refine(aM.out W aQ).mono ?_;rintro e w2 ⟨sv,pv,rfl,aP,aV,Z⟩;have aX:=qg aa Z;have aJ:=qg ac Z;have aT:=qg ag Z;have aZ:Below o w w2:=aQ.trans (Z.mono (by omega));have aA:=Z.size;have am:=hid aZ;have ad:=hid aX;have ab:=hid aJ;have an:=hid aT;have bd:=hid aP;have a3:=hid aV;obtain⟨aI,aW,aN,rfl⟩: ∃a n c,sv= .slice a n c:=by
  rcases aP with⟨rfl, -⟩|⟨-,ho⟩
  ·exact⟨_,_,_,rfl⟩
  ·exact qu ho
 obtain⟨aB,aR,aG,rfl⟩: ∃a n c,pv= .slice a n c:=by
  rcases aV with⟨rfl, -⟩|⟨-,ho⟩
  ·exact⟨_,_,_,rfl⟩
  ·exact qu ho
 have bj:b2<w2.heap.size:=by omega
 clear Z aa ac ag aX aJ aT aZ aQ aM aj aP aV aH;go_upto_region 3 with(first|((with_reducible show wpList _ _ _ (Oper.mk none (Op.store 171 _ _) _ _ _ _::_) _ _);refine wpList_store_row rfl 171 _ _ rfl w2.heap.size #[.int .i64 d,.int .i64 (D:Nat),.int .i64 f,.int .i64 p,.int .u32 l,.int .u64 (at_:Nat),.int .u32 0,.int .i64 (row:Nat),.int .i64 i,.slice aI aW aN,.slice aB aR aG] rfl rfl 171 _ (Wn _ _) (by kernel_rfl) rfl (by simp[Value.oneCell']) ?_))
 refine qm ?_;intro V hV;obtain⟨b3,G⟩:=Ex w2.heap.size;have aC:V.heap[b3]? =some (.cells #[.int .i64 d,.int .i64 (D:Nat),.int .i64 f,.int .i64 p,.int .u32 l,.int .u64 (at_:Nat),.int .u32 0,.int .i64 (row:Nat),.int .i64 i,.slice aI aW aN,.slice aB aR aG] 171 (0,0)):=by rw[hV,←G];exact setRow_heap _ _ _ _ _ _ (Wn _ _)
 have ae:Below b3 w2 V:=by rw[hV,←G];exact below_setRow (Br.alloc Nl _) Nl _
 have be:=hid (show Below o w V from am.out.trans (ae.mono (by omega)));have aa:=(ae.block o (by omega)).trans ad.out;have ac:=(ae.block (o+1) (by omega)).trans ab.out;have ag:=(ae.block b2 (by omega)).trans an.out;have bf:=hid (aw.out V W.heap.size (.slice aI aW aN) (.slice aB aR aG) (Zd bd.out (G▸ae)) (Zd a3.out (G▸ae)));have bt:b2<b3:=by omega
 have bo:b3<V.heap.size:=(Ai aC).1;have bh:o<V.heap.size:=by omega
 rw[G];have c0:V.cell? ⟨o,0,none⟩=some (.int .i64 k):=qd aa 0;have aH:=hid G;clear hV ae am ad ab an aA G aw bd a3 bj;go_wp2_with ((with_reducible show wpList _ _ _ (Oper.mk _ (Op.load 171 _) _ _ _ _::_) _ _);refine wpList_load_row rfl 171 _ rfl b3 rfl _ _ _ _ aC Tryz.underlying171 rfl (by kernel_rfl) ?_)
 refine bf.out.mono ?_;rintro e w3 ⟨⟨bv,rfl,aF⟩,G⟩;obtain⟨a5,n5,k5,rfl⟩:=qu aF;have ak:=qg aa G;have ad:=hid ak;have ab:=hid (qg ac G);have aq:=qg ag G;have an:=hid aq;have bn:=G.size;have a6:=hid (ownsRow_le aF (show o≤V.heap.size by omega));have bc:=hid (show Below o w w3 from be.out.trans (G.mono (by omega)));have c0:w3.cell? ⟨o,0,none⟩=some (.int .i64 k):=qd ak 0;have c5:w3.cell? ⟨o,5,none⟩=some (.int .i64 i):=qd ak 5;have d4:w3.cell? ⟨b2,4,none⟩=some (.bool q4):=qd aq 4;have bl:o+1<w3.heap.size∧o<w3.heap.size∧b2<w3.heap.size:=by omega
 clear G aF aa ac ag aC ak aq bf be bn aH bh bo;go_upto_region 5 with(fail)
 refine qm ?_;intro U hU;obtain⟨q,av⟩:=Ex w3.heap.size;have ay:U.heap[q]? =some (.cells #[.int .i64 k,.slice a5 n5 k5,.slice none 0 0,.bool q4,.int .i64 i,.slice da dn dc] 73 (0,0)):=by rw[hU,←av];exact Wn _ _
 have ai:Below q w3 U:=by rw[hU,←av];exact Br.alloc Nl _
 rw[av];have af:=hid ay;have al:=hid ((ai.block o (by omega)).trans ad.out);have ar:=hid ((ai.block (o+1) (by omega)).trans ab.out);have aU:=hid ((ai.block b2 (by omega)).trans an.out);have aY:=hid (show Below o w U from bc.out.trans (ai.mono (by omega)));have ap:=hid (qk a6.out (fun g _ g2=>ai.block g (by omega)));have bs:=(Ai ay).1;have br:o+1<q∧o<U.heap.size∧o+1<U.heap.size∧b2<q∧b2<U.heap.size:=by omega
 have c1:U.cell? ⟨o,1,none⟩=some (.int .i64 d):=qd al.out 1;have c4:U.cell? ⟨q,4,none⟩=some (.int .i64 i):=qd af.out 4;have d5:U.cell? ⟨b2,5,none⟩=some (.bool q5):=qd aU.out 5;have f4:=frozen_of_row U q 4 _ _ af.out;clear hU av ai ad ab an bc a6 c0 c5 d4 bl ay;have bi: ∀(X:World),X.heap[o+1]? =some (.cells #[.int .i64 0,.slice none 0 0,.slice none 0 0,.bool false,.int .i64 0,.slice none 0 0] 73 (0,0))→True:=fun _ _=>trivial
 clear bi;obtain⟨O,hO⟩:=Ex ((if q5 then d else i));have bk: ∃Y:World,Y=(if q5 then U.setCell ⟨q,4,none⟩ (.int .i64 d) else U)∧Y.heap[q]? =some (.cells #[.int .i64 k,.slice a5 n5 k5,.slice none 0 0,.bool q4,.int .i64 O,.slice da dn dc] 73 (0,0))∧Y.heap[o]? =some (.cells #[.int .i64 k,.int .i64 d,.int .i64 f,.int .i64 p,.int .u32 l,.int .i64 i,.slice I D J,.slice sa sl sc,.slice pa pl pc] 26 (0,0))∧
   Y.heap[o+1]? =some (.cells #[.int .i64 0,.slice none 0 0,.slice none 0 0,.bool false,.int .i64 0,.slice none 0 0] 73 (0,0))∧Below o w Y∧Y.ownsRow o 5 1 (.slice a5 n5 k5) (mB (TreeV.big ⟨k,d,f,p,l,i,I,D,J,sa,sl,sc,pa,pl,pc⟩)) (BL.map qt):=by
  rw[HB.out]
  cases q5
  ·simp only[Bool.false_eq_true,if_false]at hO⊢;subst hO;exact⟨U,rfl,af.out,al.out,ar.out,aY.out,ap.out⟩
  ·simp only[if_true]at hO⊢;subst hO;exact⟨_,rfl,heap_setCell_same U q 4 _ _ (.int .i64 d) af.out,(heap_setCell_other U ⟨q,4,none⟩ o (.int .i64 d) (show o≠q by omega)).trans al.out,(heap_setCell_other U ⟨q,4,none⟩ (o+1) (.int .i64 d) (show o+1≠q by omega)).trans ar.out,aY.out.setCell (show o≤q by omega) _,Yg ap.out af.out 4 (.int .i64 d) (by decide)⟩
 obtain⟨Y,bb,e1,e2,e3,e4,e5⟩:=bk;have G1:=hid e1;have G2:=hid e2;have G3:=hid e3;have G4:=hid e4;have G5:=hid e5;have bw:q<Y.heap.size∧o<Y.heap.size∧o+1<Y.heap.size:=by
  have:=(Ai e1).1
  omega
 have aO:Hid (TreeV.outN ⟨k,d,f,p,l,i,I,D,J,sa,sl,sc,pa,pl,pc⟩ q5=O):=hid hO;have aS:=hid bb;clear bb e1 e2 e3 e4 e5 hO;have a9:qdi row (.slice I D J)=if row=0 then .slice I D J else .slice none 0 0:=rfl
 have bA:=hid a9;clear a9
 cases q5
 all_goals go_upto_region 7 with(fail)
 all_goals first|rw[show U=Y from aS.out.symm]|rw[show U.setCell ⟨q,4,none⟩ (.int .i64 d)=Y from aS.out.symm]
 all_goals clear c1 c4 d5 f4 af al ar aU aY ap aS
 all_goals by_cases aD:row=0
 all_goals first
 | (
  have hq:((row:Int)==0)=false:=by rw[beq_eq_false_iff_ne];omega
  have ax:qdi row (.slice I D J)= .slice none 0 0:=if_neg aD;go_wp2_with (first|((with_reducible show wpList _ _ _ (Oper.mk _ (Op.load 73 _) _ _ _ _::_) _ _);refine wpList_load_row rfl 73 _ rfl q rfl _ _ _ _ G1.out Tryz.underlying73 rfl (by kernel_rfl) ?_)|((with_reducible show wpList _ _ _ (Oper.mk none (Op.store 73 _ _) _ _ _ _::_) _ _);refine wpList_store_row rfl 73 _ _ rfl (o+1) #[.int .i64 k,.slice a5 n5 k5,.slice none 0 0,.bool q4,.int .i64 O,.slice da dn dc] rfl rfl 73 _ G3.out (by kernel_rfl) rfl (by simp[Value.oneCell']) ?_))
  exact Bp (results_cell_row rfl _ _ _ _ _ _ _ rfl (setRow_heap _ _ _ _ _ _ G3.out) Tryz.underlying73 rfl (by kernel_rfl)) rfl (by(try rw[ah]);rw[aO.out];(try rw[ax]);exact⟨_,rfl,yo G5.out G3.out (by decide),below_setRow G4.out (by omega) _⟩))
 | (
  subst aD;have ax:qdi 0 (.slice I D J)= .slice I D J:=rfl;have c6:Y.cell? ⟨o,6,none⟩=some (.slice I D J):=qd G2.out 6;have c2:Y.cell? ⟨q,2,none⟩=some (.slice none 0 0):=qd G1.out 2;have f2:=frozen_of_row Y q 2 _ _ G1.out;go_upto_region 9 with(fail)
  have K1:=hid (heap_setCell_same Y q 2 _ _ (.slice I D J) G1.out);have K3:=hid ((heap_setCell_other Y ⟨q,2,none⟩ (o+1) (.slice I D J) (show o+1≠q by omega)).trans G3.out);have K4:=hid (show Below o w (Y.setCell ⟨q,2,none⟩ (.slice I D J)) from G4.out.setCell (show o≤q by omega) _);have K5:=hid (Yg G5.out G1.out 2 (.slice I D J) (by decide));clear c6 c2 f2;generalize Y.setCell ⟨q,2,none⟩ (.slice I D J)=U7 at*;go_wp2_with (first|((with_reducible show wpList _ _ _ (Oper.mk _ (Op.load 73 _) _ _ _ _::_) _ _);refine wpList_load_row rfl 73 _ rfl q rfl _ _ _ _ K1.out Tryz.underlying73 rfl (by kernel_rfl) ?_)|((with_reducible show wpList _ _ _ (Oper.mk none (Op.store 73 _ _) _ _ _ _::_) _ _);refine wpList_store_row rfl 73 _ _ rfl (o+1) #[.int .i64 k,.slice a5 n5 k5,.slice I D J,.bool q4,.int .i64 O,.slice da dn dc] rfl rfl 73 _ K3.out (by kernel_rfl) rfl (by simp[Value.oneCell']) ?_))
  exact Bp (results_cell_row rfl _ _ _ _ _ _ _ rfl (setRow_heap _ _ _ _ _ _ K3.out) Tryz.underlying73 rfl (by kernel_rfl)) rfl (by(try rw[ah]);rw[aO.out];(try rw[ax]);exact⟨_,rfl,yo K5.out K3.out (by decide),below_setRow K4.out (by omega) _⟩))
end Go.Proofs.YthjoojnlnlmljaaGreat
