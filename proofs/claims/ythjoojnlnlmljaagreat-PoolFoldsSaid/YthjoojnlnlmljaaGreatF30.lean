/- A node's call, by the reference's tree. No condition. -/
import Derived.Test.YthjoojnlnlmljaaGreatF24
import Derived.Test.YthjoojnlnlmljaaGreatF28
import Derived.Test.YthjoojnlnlmljaaGreatF29
set_option linter.all false
set_option maxRecDepth 100000
set_option maxHeartbeats 8000000
namespace Go.Proofs.YthjoojnlnlmljaaGreat
open Go.ChangeShapes Go.WideShapes Go.ChangeAt Go.RowKit Go.Joins Go.Shelf Go.Maps
open Go.Lib (hid)
attribute [local go_sem] Oper.semAt_some
theorem qa5 {big o:Bool}{v:Nat→Nat}{i:Nat}(q:2*sB big≤i): ∀k,k≤9→qn (Qt big o v k) i=0
 | 0,_=>ji big o v i
 | k+1,h=>by
  have e: ∀j,1≤j→j≤9→atB big j+szB big j≤2*sB big:=fun j a b=>by
   rcases(show j=1∨j=2∨j=3∨j=4∨j=5∨j=6∨j=7∨j=8∨j=9 by omega)with rfl|rfl|rfl|rfl|rfl|rfl|rfl|rfl|rfl<;>cases big<;>decide
  have:=e (k+1) (by omega) h
  rw[Qq big o v h i,if_neg (fun D=>by omega)];exact qa5 q k (by omega)
theorem zT {b:Nat}{W W':World}{z:List Int}{s:Value}(h:SideIs b W z s)(q:Below W.heap.size W W'):SideIs b W' z s:=by
 rcases h with h|⟨D,o⟩
 ·exact .inl h
 ·exact .inr ⟨D,qi o (fun g _ G=>q.block g G)⟩
theorem jT {b:Nat}{W:World}{z:List Int}{s:Value}(h:SideIs b W z s)(q: ∀a∈z,0≤a∧a≤255): ∃o,Hold W s o∧o.length≤z.length∧(o=z∨o=[]∧ ∀a∈z,a=0):=by
 rcases h with⟨rfl,h⟩|⟨-,h⟩
 ·exact⟨[],Hold.nil W,Nat.zero_le _,.inr ⟨rfl,h⟩⟩
 ·exact⟨z,Qn h q,Nat.le_refl _,.inl rfl⟩
theorem qf5 {z:List Int}(h: ∀a∈z,a=0)(i:Nat):qn z i=0:=by
 unfold qn;rw[Lg]
 cases e:z[i]? with
 | none=>rfl
 | some a=>exact h a (List.mem_of_getElem? e)
theorem qbL {b z:List Int}{p:Nat}(h:p+z.length≤b.length)(q: ∀a∈z,a=0)(D: ∀i,p≤i→i<p+z.length→qn b i=0)(i:Nat):qn (Qb b p z) i=qn b i:=by
 rw[Yi h];split
 ·rename_i o;rw[qf5 q,D i o.1 o.2]
 ·rfl
theorem qhP {a b:List Int}(q:a.length=b.length)(h: ∀i,qn a i=qn b i):a=b:=by
 refine List.ext_getElem q fun i D o=>?_
 have:=h i
 unfold qn at this;simpa [Lg,D,o] using this
theorem qb8 {big:Bool}{v:Nat→Nat}{z1 z2 o D:List Int}(q:z1.length≤sB big)(J:z2.length≤sB big)(V:o=z1∨o=[]∧ ∀a∈z1,a=0)(S:D=z2∨D=[]∧ ∀a∈z2,a=0):QI big v o D=QI big v z1 z2:=by
 have hm:4*sB big=mB big:=by cases big<;>decide
 have X:=QG big (v 7==0) v 9 (by omega);have G:o.length≤sB big:=by rcases V with rfl|⟨rfl, -⟩<;>simp[q]
 have O:D.length≤sB big:=by rcases S with rfl|⟨rfl, -⟩<;>simp[J]
 refine qhP (by rw[yc G O,yc q J]) fun i=>?_
 have a1: ∀i,qn (Qb (Qt big (v 7==0) v 9) (2*sB big) o) i=qn (Qb (Qt big (v 7==0) v 9) (2*sB big) z1) i:=fun i=>by
  rcases V with rfl|⟨rfl,h⟩
  ·rfl
  ·rw[YF,qbL (by omega) h fun j U _=>qa5 U 9 (by omega)]
 have I: ∀y:List Int,y.length≤sB big→(Qb (Qt big (v 7==0) v 9) (2*sB big) y).length=mB big:=fun y hy=>by rw[Qd (by omega),X]
 unfold QI;rcases S with rfl|⟨rfl,h⟩
 ·have Z:=I _ G;have m2:=I _ q;rw[Yi (b:=Qb (Qt big (v 7==0) v 9) (2*sB big) o) (by omega),Yi (b:=Qb (Qt big (v 7==0) v 9) (2*sB big) z1) (by omega),a1]
 ·rw[YF,a1,qbL (by rw[I _ q];omega) h fun j U Y=>?_];rw[Yi (by omega),if_neg (by omega)];exact qa5 (by omega) 9 (by omega)
theorem qbw (big:Bool)(v:Nat→Nat)(z1 z2:List Int)(D G:Value)(b:Nat)(w:World)(S:ParOk big v)(h1:SideIs b w z1 D)(h2:SideIs b w z2 G)(O: ∀a∈z1,0≤a∧a≤255)(X: ∀a∈z2,0≤a∧a≤255)(o:z1.length≤sB big)(q:z2.length≤sB big):
  Calls Tryz.prog 138 #[.int .i64 (kB big),parN v D G] w fun e w'=>(∃r,e= .returned (.tuple #[r,.int .i64 0])∧w'.ownsRow w.heap.size 5 1 r (mB big) ((QI big v z1 z2).map qp))∧Below w.heap.size w w':=by
 obtain⟨I,V,J,e1⟩:=jT h1 O;obtain⟨U,Y,Z,e2⟩:=jT h2 X;rw[←qb8 o q e1 e2]
 cases big
 ·exact Zk v I U D G w S V Y (Nat.le_trans J o) (Nat.le_trans Z q)
 ·exact ZC v I U D G w S V Y (Nat.le_trans J o) (Nat.le_trans Z q)
def qeR (row:Nat)(kv:Value):Value:=if row=0 then kv else .slice none 0 0
theorem qaG (t:TreeV)(total:Nat)(h:t.err total=0)(hl:0≤t.l∧t.l≤4294967295)(ht:(total:Int)≤18446744073709551615)(z1 z2:List Int)(row at_:Nat)(hr:row≤255)(ha:at_<281474976710656)(aK:t.there total row at_)(S:SpotV)(hS:t.spot total row at_=S)(da:Option Addr)(dn dc:Nat)(w:World)
  (h1:Hold w (.slice t.sa t.sl t.sc) z1) (h2:Hold w (.slice t.pa t.pl t.pc) z2):
  Calls Tryz.prog 104 #[t.val,.int .u64 total,.int .i64 (row:Nat),.int .u64 (at_:Nat),.slice da dn dc] w fun e w'=> ∃bv,e= .returned (.agg (ZQ t.k bv (qeR row (.slice t.ka t.kl t.kc)) S.last (t.outN S.root) (.slice da dn dc)))∧
   w'.ownsRow w.heap.size 5 1 bv (mB t.big) ((t.blk z1 z2 row at_).map qp)∧Below w.heap.size w w':=by
 obtain⟨o,ah⟩:=Ex w.heap.size;have h0:=(yj hl h).2.2.2;have bu:z1.length=t.sl:=by obtain⟨a,c,e, -, -⟩:=h1.slice;simp only[Value.slice.injEq]at e;exact e.2.1.symm
 have bw:z2.length=t.pl:=by obtain⟨a,c,e, -, -⟩:=h2.slice;simp only[Value.slice.injEq]at e;exact e.2.1.symm
 have bq:=qq h0;have bn:=yH h0;have bk:sB t.big≤16:=by cases t.big<;>decide
 have af:=hid (fun(W:World)=>JV t hl total ht row at_ W);have be:t.spotR total row at_=S:=by unfold TreeV.spotR;rw[if_pos ⟨h,aK⟩];exact hS
 have bf:t.spotE total row at_=0:=by unfold TreeV.spotE;rw[if_neg (by simp[h]),if_pos aK]
 rw[be,bf]at af;obtain⟨q0,q1,q2,q3,q4,q5⟩:=S;unfold SpotV.val at af;simp only at af
 have ax:=hid (fun(W:World) (hb:Below o w W)=>qcq t total row at_ af W (hid (h1.below (ah▸hb)).holds8) (hid (h2.below (ah▸hb)).holds8) (hid h1.1) (hid h2.1) (hid (by omega)) (hid (by omega)));have aC:=hid (fun(W:World) (b:Nat) (s p:Value) (aY:SideIs b W z1 s) (aB:SideIs b W z2 p)=>qbw t.big (t.vN row at_) z1 z2 s p b W (qae h0 hl hr ha) aY aB h1.1 h2.1 (by omega) (by omega));simp only[TreeV.parN h0 hl,YW h0]at aC;have HB:=hid (show t.blk z1 z2 row at_=QI t.big (t.vN row at_) z1 z2 from rfl);generalize t.blk z1 z2 row at_=BL at*;obtain⟨k,d,f,p,l,i,J,D,I,sa,sl,sc,pa,pl,pc⟩:=t;unfold TreeV.val at*;unfold JD at ax;simp only at*
 clear bq bn h h0 hl h1 h2 aK hS be bf bk hr ha;go_enter Tryz.func104,Tryz.ntmps104
 go_upto_region 1 with(fail)
 have aa:((w.alloc (.cells #[.int .i64 k,.int .i64 d,.int .i64 f,.int .i64 p,.int .u32 l,.int .i64 i,.slice J D I,.slice sa sl sc,.slice pa pl pc] 26)).alloc (.cells #[.int .i64 0,.slice none 0 0,.slice none 0 0,.bool false,.int .i64 0,.slice none 0 0] 73)).heap[o]? =some (.cells #[.int .i64 k,.int .i64 d,.int .i64 f,.int .i64 p,.int .u32 l,.int .i64 i,.slice J D I,.slice sa sl sc,.slice pa pl pc] 26 (0,0)):=(Bh _ _ _ (by simp;omega)).trans (qc _ _ ah.symm);have ac:((w.alloc (.cells #[.int .i64 k,.int .i64 d,.int .i64 f,.int .i64 p,.int .u32 l,.int .i64 i,.slice J D I,.slice sa sl sc,.slice pa pl pc] 26)).alloc (.cells #[.int .i64 0,.slice none 0 0,.slice none 0 0,.bool false,.int .i64 0,.slice none 0 0] 73)).heap[o+1]? =some (.cells #[.int .i64 0,.slice none 0 0,.slice none 0 0,.bool false,.int .i64 0,.slice none 0 0] 73 (0,0)):=qc _ _ (by simp;omega);have a4:Below o w ((w.alloc (.cells #[.int .i64 k,.int .i64 d,.int .i64 f,.int .i64 p,.int .u32 l,.int .i64 i,.slice J D I,.slice sa sl sc,.slice pa pl pc] 26)).alloc (.cells #[.int .i64 0,.slice none 0 0,.slice none 0 0,.bool false,.int .i64 0,.slice none 0 0] 73)):=by rw[←ah];exact(Br.alloc Nl _).alloc (by simp) _
 have bm:((w.alloc (.cells #[.int .i64 k,.int .i64 d,.int .i64 f,.int .i64 p,.int .u32 l,.int .i64 i,.slice J D I,.slice sa sl sc,.slice pa pl pc] 26)).alloc (.cells #[.int .i64 0,.slice none 0 0,.slice none 0 0,.bool false,.int .i64 0,.slice none 0 0] 73)).heap.size=o+2:=by simp;omega
 generalize ((w.alloc (.cells #[.int .i64 k,.int .i64 d,.int .i64 f,.int .i64 p,.int .u32 l,.int .i64 i,.slice J D I,.slice sa sl sc,.slice pa pl pc] 26)).alloc (.cells #[.int .i64 0,.slice none 0 0,.slice none 0 0,.bool false,.int .i64 0,.slice none 0 0] 73))=wA at*;go_wp2_with ((with_reducible show wpList _ _ _ (Oper.mk _ (Op.load 26 _) _ _ _ _::_) _ _);refine wpList_load_row rfl 26 _ rfl o rfl _ _ _ _ aa Tryz.underlying26 rfl (by kernel_rfl) ?_)
 refine(af.out wA).mono ?_;rintro e w1 ⟨rfl,am⟩;have aN:=qe aa am;have az:=qe ac am;have a8:Below o w w1:=a4.trans (am.mono (by omega));have aY:=am.size;have an:=hid a8;have ad:=hid aN;have ab:=hid az;clear am aa ac a4 aN az a8;go_upto_region 2 with(first|((with_reducible show wpList _ _ _ (Oper.mk none (Op.store 96 _ _) _ _ _ _::_) _ _);refine wpList_store_row rfl 96 _ _ rfl w1.heap.size #[.int .i64 q0,.int .u64 q1,.int .u64 q2,.int .u64 q3,.bool q4,.bool q5] rfl rfl 96 _ (Wn _ _) (by kernel_rfl) rfl (by simp[Value.oneCell']) ?_))
 refine qj ?_;intro W hW;obtain⟨b2,Z⟩:=Ex w1.heap.size;have ag:W.heap[b2]? =some (.cells #[.int .i64 q0,.int .u64 q1,.int .u64 q2,.int .u64 q3,.bool q4,.bool q5] 96 (0,0)):=by rw[hW,←Z];exact setRow_heap _ _ _ _ _ _ (Wn _ _)
 have av:Below b2 w1 W:=by rw[hW,←Z];exact below_setRow (Br.alloc Nl _) Nl _
 have aP:Below o w W:=an.out.trans (av.mono (by omega));have aa:=(av.block o (by omega)).trans ad.out;have ac:=(av.block (o+1) (by omega)).trans ab.out;have bA:o+1<b2:=by omega
 have bs:b2<W.heap.size:=(Ai ag).1;rw[Z];have aW:=hid Z;clear hW av an ad ab bm aY Z;go_wp2_with ((with_reducible show wpList _ _ _ (Oper.mk _ (Op.load 26 _) _ _ _ _::_) _ _);refine wpList_load_row rfl 26 _ rfl o rfl _ _ _ _ aa Tryz.underlying26 rfl (by kernel_rfl) ?_)
 refine(ax.out W aP).mono ?_;rintro e w2 ⟨sv,pv,rfl,aF,aS,Z⟩;have aR:=qe aa Z;have aL:=qe ac Z;have aM:=qe ag Z;have aZ:Below o w w2:=aP.trans (Z.mono (by omega));have aB:=Z.size;have an:=hid aZ;have ad:=hid aR;have ab:=hid aL;have ao:=hid aM;have ba:=hid aF;have a6:=hid aS;obtain⟨aU,aw,aQ,rfl⟩: ∃a n c,sv= .slice a n c:=by
  rcases aF with⟨rfl, -⟩|⟨-,ho⟩
  ·exact⟨_,_,_,rfl⟩
  ·exact qu ho
 obtain⟨aE,aX,aA,rfl⟩: ∃a n c,pv= .slice a n c:=by
  rcases aS with⟨rfl, -⟩|⟨-,ho⟩
  ·exact⟨_,_,_,rfl⟩
  ·exact qu ho
 have bl:b2<w2.heap.size:=by omega
 clear Z aa ac ag aR aL aM aZ aP ax af aF aS aW;go_upto_region 3 with(first|((with_reducible show wpList _ _ _ (Oper.mk none (Op.store 171 _ _) _ _ _ _::_) _ _);refine wpList_store_row rfl 171 _ _ rfl w2.heap.size #[.int .i64 d,.int .i64 (D:Nat),.int .i64 f,.int .i64 p,.int .u32 l,.int .u64 (at_:Nat),.int .u32 0,.int .i64 (row:Nat),.int .i64 i,.slice aU aw aQ,.slice aE aX aA] rfl rfl 171 _ (Wn _ _) (by kernel_rfl) rfl (by simp[Value.oneCell']) ?_))
 refine qj ?_;intro V hV;obtain⟨b3,G⟩:=Ex w2.heap.size;have aH:V.heap[b3]? =some (.cells #[.int .i64 d,.int .i64 (D:Nat),.int .i64 f,.int .i64 p,.int .u32 l,.int .u64 (at_:Nat),.int .u32 0,.int .i64 (row:Nat),.int .i64 i,.slice aU aw aQ,.slice aE aX aA] 171 (0,0)):=by rw[hV,←G];exact setRow_heap _ _ _ _ _ _ (Wn _ _)
 have ae:Below b3 w2 V:=by rw[hV,←G];exact below_setRow (Br.alloc Nl _) Nl _
 have a7:=hid (show Below o w V from an.out.trans (ae.mono (by omega)));have aa:=(ae.block o (by omega)).trans ad.out;have ac:=(ae.block (o+1) (by omega)).trans ab.out;have ag:=(ae.block b2 (by omega)).trans ao.out;have bb:=hid (aC.out V W.heap.size (.slice aU aw aQ) (.slice aE aX aA) (zT ba.out (G▸ae)) (zT a6.out (G▸ae)));have bC:b2<b3:=by omega
 have bp:b3<V.heap.size:=(Ai aH).1;have bj:o<V.heap.size:=by omega
 rw[G];have c0:V.cell? ⟨o,0,none⟩=some (.int .i64 k):=qa aa 0;have aW:=hid G;clear hV ae an ad ab ao aB G aC ba a6 bl;go_wp2_with ((with_reducible show wpList _ _ _ (Oper.mk _ (Op.load 171 _) _ _ _ _::_) _ _);refine wpList_load_row rfl 171 _ rfl b3 rfl _ _ _ _ aH Tryz.underlying171 rfl (by kernel_rfl) ?_)
 refine bb.out.mono ?_;rintro e w3 ⟨⟨bv,rfl,ay⟩,G⟩;obtain⟨a5,n5,k5,rfl⟩:=qu ay;have al:=qe aa G;have ad:=hid al;have ab:=hid (qe ac G);have aq:=qe ag G;have ao:=hid aq;have bo:=G.size;have a3:=hid (ownsRow_le ay (show o≤V.heap.size by omega));have bc:=hid (show Below o w w3 from a7.out.trans (G.mono (by omega)));have c0:w3.cell? ⟨o,0,none⟩=some (.int .i64 k):=qa al 0;have c5:w3.cell? ⟨o,5,none⟩=some (.int .i64 i):=qa al 5;have d4:w3.cell? ⟨b2,4,none⟩=some (.bool q4):=qa aq 4;have bg:o+1<w3.heap.size∧o<w3.heap.size∧b2<w3.heap.size:=by omega
 clear G ay aa ac ag aH al aq bb a7 bo aW bj bp;go_upto_region 5 with(fail)
 refine qj ?_;intro U hU;obtain⟨q,au⟩:=Ex w3.heap.size;have aO:U.heap[q]? =some (.cells #[.int .i64 k,.slice a5 n5 k5,.slice none 0 0,.bool q4,.int .i64 i,.slice da dn dc] 73 (0,0)):=by rw[hU,←au];exact Wn _ _
 have ai:Below q w3 U:=by rw[hU,←au];exact Br.alloc Nl _
 rw[au];have aj:=hid aO;have ak:=hid ((ai.block o (by omega)).trans ad.out);have ap:=hid ((ai.block (o+1) (by omega)).trans ab.out);have aJ:=hid ((ai.block b2 (by omega)).trans ao.out);have aG:=hid (show Below o w U from bc.out.trans (ai.mono (by omega)));have ar:=hid (qi a3.out (fun g _ g2=>ai.block g (by omega)));have bx:=(Ai aO).1;have br:o+1<q∧o<U.heap.size∧o+1<U.heap.size∧b2<q∧b2<U.heap.size:=by omega
 have c1:U.cell? ⟨o,1,none⟩=some (.int .i64 d):=qa ak.out 1;have c4:U.cell? ⟨q,4,none⟩=some (.int .i64 i):=qa aj.out 4;have d5:U.cell? ⟨b2,5,none⟩=some (.bool q5):=qa aJ.out 5;have f4:=frozen_of_row U q 4 _ _ aj.out;clear hU au ai ad ab ao bc a3 c0 c5 d4 bg aO;have bi: ∀(X:World),X.heap[o+1]? =some (.cells #[.int .i64 0,.slice none 0 0,.slice none 0 0,.bool false,.int .i64 0,.slice none 0 0] 73 (0,0))→True:=fun _ _=>trivial
 clear bi;obtain⟨O,hO⟩:=Ex ((if q5 then d else i));have bh: ∃Y:World,Y=(if q5 then U.setCell ⟨q,4,none⟩ (.int .i64 d) else U)∧Y.heap[q]? =some (.cells #[.int .i64 k,.slice a5 n5 k5,.slice none 0 0,.bool q4,.int .i64 O,.slice da dn dc] 73 (0,0))∧Y.heap[o]? =some (.cells #[.int .i64 k,.int .i64 d,.int .i64 f,.int .i64 p,.int .u32 l,.int .i64 i,.slice J D I,.slice sa sl sc,.slice pa pl pc] 26 (0,0))∧
   Y.heap[o+1]? =some (.cells #[.int .i64 0,.slice none 0 0,.slice none 0 0,.bool false,.int .i64 0,.slice none 0 0] 73 (0,0))∧Below o w Y∧Y.ownsRow o 5 1 (.slice a5 n5 k5) (mB (TreeV.big ⟨k,d,f,p,l,i,J,D,I,sa,sl,sc,pa,pl,pc⟩)) (BL.map qp):=by
  rw[HB.out]
  cases q5
  ·simp only[Bool.false_eq_true,if_false]at hO⊢;subst hO;exact⟨U,rfl,aj.out,ak.out,ap.out,aG.out,ar.out⟩
  ·simp only[if_true]at hO⊢;subst hO;exact⟨_,rfl,heap_setCell_same U q 4 _ _ (.int .i64 d) aj.out,(heap_setCell_other U ⟨q,4,none⟩ o (.int .i64 d) (show o≠q by omega)).trans ak.out,(heap_setCell_other U ⟨q,4,none⟩ (o+1) (.int .i64 d) (show o+1≠q by omega)).trans ap.out,aG.out.setCell (show o≤q by omega) _,yW ar.out aj.out 4 (.int .i64 d) (by decide)⟩
 obtain⟨Y,bd,e1,e2,e3,e4,e5⟩:=bh;have G1:=hid e1;have G2:=hid e2;have G3:=hid e3;have G4:=hid e4;have G5:=hid e5;have bt:q<Y.heap.size∧o<Y.heap.size∧o+1<Y.heap.size:=by
  have:=(Ai e1).1
  omega
 have aI:Hid (TreeV.outN ⟨k,d,f,p,l,i,J,D,I,sa,sl,sc,pa,pl,pc⟩ q5=O):=hid hO;have aT:=hid bd;clear bd e1 e2 e3 e4 e5 hO;have a9:qeR row (.slice J D I)=if row=0 then .slice J D I else .slice none 0 0:=rfl
 have bz:=hid a9;clear a9
 cases q5
 all_goals go_upto_region 7 with(fail)
 all_goals first|rw[show U=Y from aT.out.symm]|rw[show U.setCell ⟨q,4,none⟩ (.int .i64 d)=Y from aT.out.symm]
 all_goals clear c1 c4 d5 f4 aj ak ap aJ aG ar aT
 all_goals by_cases aV:row=0
 all_goals first
 | (
  have hq:((row:Int)==0)=false:=by rw[beq_eq_false_iff_ne];omega
  have aD:qeR row (.slice J D I)= .slice none 0 0:=if_neg aV;go_wp2_with (first|((with_reducible show wpList _ _ _ (Oper.mk _ (Op.load 73 _) _ _ _ _::_) _ _);refine wpList_load_row rfl 73 _ rfl q rfl _ _ _ _ G1.out Tryz.underlying73 rfl (by kernel_rfl) ?_)|((with_reducible show wpList _ _ _ (Oper.mk none (Op.store 73 _ _) _ _ _ _::_) _ _);refine wpList_store_row rfl 73 _ _ rfl (o+1) #[.int .i64 k,.slice a5 n5 k5,.slice none 0 0,.bool q4,.int .i64 O,.slice da dn dc] rfl rfl 73 _ G3.out (by kernel_rfl) rfl (by simp[Value.oneCell']) ?_))
  exact Bp (results_cell_row rfl _ _ _ _ _ _ _ rfl (setRow_heap _ _ _ _ _ _ G3.out) Tryz.underlying73 rfl (by kernel_rfl)) rfl (by(try rw[ah]);rw[aI.out];(try rw[aD]);exact⟨_,rfl,yE G5.out G3.out (by decide),below_setRow G4.out (by omega) _⟩))
 | (
  subst aV;have aD:qeR 0 (.slice J D I)= .slice J D I:=rfl;have c6:Y.cell? ⟨o,6,none⟩=some (.slice J D I):=qa G2.out 6;have c2:Y.cell? ⟨q,2,none⟩=some (.slice none 0 0):=qa G1.out 2;have f2:=frozen_of_row Y q 2 _ _ G1.out;go_upto_region 9 with(fail)
  have K1:=hid (heap_setCell_same Y q 2 _ _ (.slice J D I) G1.out);have K3:=hid ((heap_setCell_other Y ⟨q,2,none⟩ (o+1) (.slice J D I) (show o+1≠q by omega)).trans G3.out);have K4:=hid (show Below o w (Y.setCell ⟨q,2,none⟩ (.slice J D I)) from G4.out.setCell (show o≤q by omega) _);have K5:=hid (yW G5.out G1.out 2 (.slice J D I) (by decide));clear c6 c2 f2;generalize Y.setCell ⟨q,2,none⟩ (.slice J D I)=U7 at*;go_wp2_with (first|((with_reducible show wpList _ _ _ (Oper.mk _ (Op.load 73 _) _ _ _ _::_) _ _);refine wpList_load_row rfl 73 _ rfl q rfl _ _ _ _ K1.out Tryz.underlying73 rfl (by kernel_rfl) ?_)|((with_reducible show wpList _ _ _ (Oper.mk none (Op.store 73 _ _) _ _ _ _::_) _ _);refine wpList_store_row rfl 73 _ _ rfl (o+1) #[.int .i64 k,.slice a5 n5 k5,.slice J D I,.bool q4,.int .i64 O,.slice da dn dc] rfl rfl 73 _ K3.out (by kernel_rfl) rfl (by simp[Value.oneCell']) ?_))
  exact Bp (results_cell_row rfl _ _ _ _ _ _ _ rfl (setRow_heap _ _ _ _ _ _ K3.out) Tryz.underlying73 rfl (by kernel_rfl)) rfl (by(try rw[ah]);rw[aI.out];(try rw[aD]);exact⟨_,rfl,yE K5.out K3.out (by decide),below_setRow K4.out (by omega) _⟩))
end Go.Proofs.YthjoojnlnlmljaaGreat
