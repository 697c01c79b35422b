/- A node's call, by the reference's tree. No condition. -/
import Derived.Test.YthjoojnlnlmljaaGreatP24
import Derived.Test.YthjoojnlnlmljaaGreatP28
import Derived.Test.YthjoojnlnlmljaaGreatPY8
import Derived.Test.YthjoojnlnlmljaaGreatP25
set_option linter.all false
set_option maxRecDepth 100000
set_option maxHeartbeats 8000000
namespace Go.Proofs.YthjoojnlnlmljaaGreat
open Go.ChangeShapes Go.WideShapes Go.ChangeAt Go.RowKit Go.Joins Go.Shelf Go.Maps
open Go.Lib (hid)
attribute [local go_sem] Oper.semAt_some
theorem qbL {big o:Bool}{v:Nat→Nat}{i:Nat}(q:2*sB big≤i): ∀k,k≤9→qr (QB big o v k) i=0
 | 0,_=>jN big o v i
 | k+1,h=>by
  have e: ∀j,1≤j→j≤9→atB big j+szB big j≤2*sB big:=fun j a b=>by
   rcases(show j=1∨j=2∨j=3∨j=4∨j=5∨j=6∨j=7∨j=8∨j=9 by omega)with rfl|rfl|rfl|rfl|rfl|rfl|rfl|rfl|rfl<;>cases big<;>decide
  have:=e (k+1) (by omega) h
  rw[Qw big o v h i,if_neg (fun r=>by omega)];exact qbL q k (by omega)
theorem qbh {b:Nat}{W W':World}{z:List Int}{s:Value}(h:SideIs b W z s)(D:Below W.heap.size W W'):SideIs b W' z s:=by
 rcases h with h|⟨r,o⟩
 ·exact .inl h
 ·exact .inr ⟨r,qi o (fun g _ q=>D.block g q)⟩
theorem qdD {b:Nat}{W:World}{z:List Int}{s:Value}(h:SideIs b W z s)(o: ∀a∈z,0≤a∧a≤255): ∃z',Hold W s z'∧z'.length≤z.length∧(z'=z∨z'=[]∧ ∀a∈z,a=0):=by
 rcases h with⟨rfl,h⟩|⟨-,h⟩
 ·exact⟨[],Hold.nil W,Nat.zero_le _,.inr ⟨rfl,h⟩⟩
 ·exact⟨z,Qq h o,Nat.le_refl _,.inl rfl⟩
theorem qgt {z:List Int}(h: ∀a∈z,a=0)(i:Nat):qr z i=0:=by
 unfold qr;rw[Lg]
 cases e:z[i]? with
 | none=>rfl
 | some a=>exact h a (List.mem_of_getElem? e)
theorem qcm {b z:List Int}{p:Nat}(h:p+z.length≤b.length)(q: ∀a∈z,a=0)(r: ∀i,p≤i→i<p+z.length→qr b i=0)(i:Nat):qr (Qj b p z) i=qr b i:=by
 rw[Yz h];split
 ·rename_i o;rw[qgt q,r i o.1 o.2]
 ·rfl
theorem qiv {a b:List Int}(o:a.length=b.length)(h: ∀i,qr a i=qr b i):a=b:=by
 refine List.ext_getElem o fun i r q=>?_
 have:=h i
 unfold qr at this;simpa [Lg,r,q] using this
theorem qgP {big:Bool}{v:Nat→Nat}{z1 z2 o q:List Int}(r:z1.length≤sB big)(U:z2.length≤sB big)(I:o=z1∨o=[]∧ ∀a∈z1,a=0)(J:q=z2∨q=[]∧ ∀a∈z2,a=0):Q4 big v o q=Q4 big v z1 z2:=by
 have Z:4*sB big=mB big:=by cases big<;>decide
 have X:=QU big (v 7==0) v 9 (by omega);have D:o.length≤sB big:=by rcases I with rfl|⟨rfl, -⟩<;>simp[r]
 have V:q.length≤sB big:=by rcases J with rfl|⟨rfl, -⟩<;>simp[U]
 refine qiv (by rw[yq D V,yq r U]) fun i=>?_
 have a1: ∀i,qr (Qj (QB big (v 7==0) v 9) (2*sB big) o) i=qr (Qj (QB big (v 7==0) v 9) (2*sB big) z1) i:=fun i=>by
  rcases I with rfl|⟨rfl,h⟩
  ·rfl
  ·rw[YZ,qcm (by omega) h fun j O _=>qbL O 9 (by omega)]
 have G: ∀y:List Int,y.length≤sB big→(Qj (QB big (v 7==0) v 9) (2*sB big) y).length=mB big:=fun y hy=>by rw[Qm (by omega),X]
 unfold Q4;rcases J with rfl|⟨rfl,h⟩
 ·have m1:=G _ D;have m2:=G _ r;rw[Yz (b:=Qj (QB big (v 7==0) v 9) (2*sB big) o) (by omega),Yz (b:=Qj (QB big (v 7==0) v 9) (2*sB big) z1) (by omega),a1]
 ·rw[YZ,a1,qcm (by rw[G _ r];omega) h fun j O Y=>?_];rw[Yz (by omega),if_neg (by omega)];exact qbL (by omega) 9 (by omega)
theorem qb6 (big:Bool)(v:Nat→Nat)(z1 z2:List Int)(G D:Value)(b:Nat)(w:World)(X:ParOk big v)(h1:SideIs b w z1 G)(h2:SideIs b w z2 D)(aa: ∀a∈z1,0≤a∧a≤255)(J: ∀a∈z2,0≤a∧a≤255)(o:z1.length≤sB big)(q:z2.length≤sB big):
  Calls Tryz.prog 138 #[.int .i64 (kB big),parN v G D] w fun e w'=>(∃r,e= .returned (.tuple #[r,.int .i64 0])∧w'.ownsRow w.heap.size 5 1 r (mB big) ((Q4 big v z1 z2).map qt))∧Below w.heap.size w w':=by
 obtain⟨I,Z,Y,e1⟩:=qdD h1 aa;obtain⟨O,V,U,e2⟩:=qdD h2 J;rw[←qgP o q e1 e2]
 cases big
 ·exact ZK v I O G D w X Z V (Nat.le_trans Y o) (Nat.le_trans U q)
 ·exact Z9 v I O G D w X Z V (Nat.le_trans Y o) (Nat.le_trans U q)
def qdl (row:Nat)(kv:Value):Value:=if row=0 then kv else .slice none 0 0
theorem Z7 (t:TreeV)(total:Nat)(h:t.err total=0)(hl:0≤t.l∧t.l≤4294967295)(ht:(total:Int)≤18446744073709551615)(z1 z2:List Int)(row at_:Nat)(hr:row≤255)(ha:at_<281474976710656)(aB:t.there total row at_)(S:SpotV)(hS:t.spot total row at_=S)(da:Option Addr)(dn dc:Nat)(w:World)
  (h1:Hold w (.slice t.sa t.sl t.sc) z1) (h2:Hold w (.slice t.pa t.pl t.pc) z2):
  Calls Tryz.prog 104 #[t.val,.int .u64 total,.int .i64 (row:Nat),.int .u64 (at_:Nat),.slice da dn dc] w fun e w'=> ∃bv,e= .returned (.agg (yW t.k bv (qdl row (.slice t.ka t.kl t.kc)) S.last (t.outN S.root) (.slice da dn dc)))∧
   w'.ownsRow w.heap.size 5 1 bv (mB t.big) ((t.blk z1 z2 row at_).map qt)∧Below w.heap.size w w':=by
 obtain⟨o,ah⟩:=Ex w.heap.size;have h0:=(Qx hl h).2.2.2;have bu:z1.length=t.sl:=by obtain⟨a,c,e, -, -⟩:=h1.slice;simp only[Value.slice.injEq]at e;exact e.2.1.symm
 have br:z2.length=t.pl:=by obtain⟨a,c,e, -, -⟩:=h2.slice;simp only[Value.slice.injEq]at e;exact e.2.1.symm
 have bo:=qo h0;have bm:=YI h0;have bj:sB t.big≤16:=by cases t.big<;>decide
 have af:=hid (fun(W:World)=>yC t hl total ht row at_ W);have bd:t.spotR total row at_=S:=by unfold TreeV.spotR;rw[if_pos ⟨h,aB⟩];exact hS
 have be:t.spotE total row at_=0:=by unfold TreeV.spotE;rw[if_neg (by simp[h]),if_pos aB]
 rw[bd,be]at af;obtain⟨q0,q1,q2,q3,q4,q5⟩:=S;unfold SpotV.val at af;simp only at af
 have aO:=hid (fun(W:World) (hb:Below o w W)=>qc3 t total row at_ af W (hid (h1.below (ah▸hb)).holds8) (hid (h2.below (ah▸hb)).holds8) (hid h1.1) (hid h2.1) (hid (by omega)) (hid (by omega)));have aK:=hid (fun(W:World) (b:Nat) (s p:Value) (aD:SideIs b W z1 s) (aE:SideIs b W z2 p)=>qb6 t.big (t.vN row at_) z1 z2 s p b W (js h0 hl hr ha) aD aE h1.1 h2.1 (by omega) (by omega));simp only[TreeV.parN h0 hl,YJ h0]at aK;have HB:=hid (show t.blk z1 z2 row at_=Q4 t.big (t.vN row at_) z1 z2 from rfl);generalize t.blk z1 z2 row at_=BL at*;obtain⟨k,d,f,p,l,i,I,r,G,sa,sl,sc,pa,pl,pc⟩:=t;unfold TreeV.val at*;unfold qbv at aO;simp only at*
 clear bo bm h h0 hl h1 h2 aB hS bd be bj hr ha;go_enter Tryz.func104,Tryz.ntmps104
 go_upto_region 1 with(fail)
 have Z:((w.alloc (.cells #[.int .i64 k,.int .i64 d,.int .i64 f,.int .i64 p,.int .u32 l,.int .i64 i,.slice I r G,.slice sa sl sc,.slice pa pl pc] 26)).alloc (.cells #[.int .i64 0,.slice none 0 0,.slice none 0 0,.bool false,.int .i64 0,.slice none 0 0] 73)).heap[o]? =some (.cells #[.int .i64 k,.int .i64 d,.int .i64 f,.int .i64 p,.int .u32 l,.int .i64 i,.slice I r G,.slice sa sl sc,.slice pa pl pc] 26 (0,0)):=(Bh _ _ _ (by simp;omega)).trans (qe _ _ ah.symm);have ac:((w.alloc (.cells #[.int .i64 k,.int .i64 d,.int .i64 f,.int .i64 p,.int .u32 l,.int .i64 i,.slice I r G,.slice sa sl sc,.slice pa pl pc] 26)).alloc (.cells #[.int .i64 0,.slice none 0 0,.slice none 0 0,.bool false,.int .i64 0,.slice none 0 0] 73)).heap[o+1]? =some (.cells #[.int .i64 0,.slice none 0 0,.slice none 0 0,.bool false,.int .i64 0,.slice none 0 0] 73 (0,0)):=qe _ _ (by simp;omega);have bc:Below o w ((w.alloc (.cells #[.int .i64 k,.int .i64 d,.int .i64 f,.int .i64 p,.int .u32 l,.int .i64 i,.slice I r G,.slice sa sl sc,.slice pa pl pc] 26)).alloc (.cells #[.int .i64 0,.slice none 0 0,.slice none 0 0,.bool false,.int .i64 0,.slice none 0 0] 73)):=by rw[←ah];exact(Br.alloc Nl _).alloc (by simp) _
 have bn:((w.alloc (.cells #[.int .i64 k,.int .i64 d,.int .i64 f,.int .i64 p,.int .u32 l,.int .i64 i,.slice I r G,.slice sa sl sc,.slice pa pl pc] 26)).alloc (.cells #[.int .i64 0,.slice none 0 0,.slice none 0 0,.bool false,.int .i64 0,.slice none 0 0] 73)).heap.size=o+2:=by simp;omega
 generalize ((w.alloc (.cells #[.int .i64 k,.int .i64 d,.int .i64 f,.int .i64 p,.int .u32 l,.int .i64 i,.slice I r G,.slice sa sl sc,.slice pa pl pc] 26)).alloc (.cells #[.int .i64 0,.slice none 0 0,.slice none 0 0,.bool false,.int .i64 0,.slice none 0 0] 73))=wA at*;go_wp2_with ((with_reducible show wpList _ _ _ (Oper.mk _ (Op.load 26 _) _ _ _ _::_) _ _);refine wpList_load_row rfl 26 _ rfl o rfl _ _ _ _ Z Tryz.underlying26 rfl (by kernel_rfl) ?_)
 refine(af.out wA).mono ?_;rintro e w1 ⟨rfl,an⟩;have aC:=qg Z an;have aH:=qg ac an;have a7:Below o w w1:=bc.trans (an.mono (by omega));have aD:=an.size;have am:=hid a7;have aa:=hid aC;have ab:=hid aH;clear an Z ac bc aC aH a7;go_upto_region 2 with(first|((with_reducible show wpList _ _ _ (Oper.mk none (Op.store 96 _ _) _ _ _ _::_) _ _);refine wpList_store_row rfl 96 _ _ rfl w1.heap.size #[.int .i64 q0,.int .u64 q1,.int .u64 q2,.int .u64 q3,.bool q4,.bool q5] rfl rfl 96 _ (Wn _ _) (by kernel_rfl) rfl (by simp[Value.oneCell']) ?_))
 refine qn ?_;intro W hW;obtain⟨b2,Y⟩:=Ex w1.heap.size;have ai:W.heap[b2]? =some (.cells #[.int .i64 q0,.int .u64 q1,.int .u64 q2,.int .u64 q3,.bool q4,.bool q5] 96 (0,0)):=by rw[hW,←Y];exact setRow_heap _ _ _ _ _ _ (Wn _ _)
 have ar:Below b2 w1 W:=by rw[hW,←Y];exact below_setRow (Br.alloc Nl _) Nl _
 have aR:Below o w W:=am.out.trans (ar.mono (by omega));have Z:=(ar.block o (by omega)).trans aa.out;have ac:=(ar.block (o+1) (by omega)).trans ab.out;have bs:o+1<b2:=by omega
 have bA:b2<W.heap.size:=(Ai ai).1;rw[Y];have aS:=hid Y;clear hW ar am aa ab bn aD Y;go_wp2_with ((with_reducible show wpList _ _ _ (Oper.mk _ (Op.load 26 _) _ _ _ _::_) _ _);refine wpList_load_row rfl 26 _ rfl o rfl _ _ _ _ Z Tryz.underlying26 rfl (by kernel_rfl) ?_)
 refine(aO.out W aR).mono ?_;rintro e w2 ⟨sv,pv,rfl,aM,aG,Y⟩;have aI:=qg Z Y;have aA:=qg ac Y;have aw:=qg ai Y;have a3:Below o w w2:=aR.trans (Y.mono (by omega));have aE:=Y.size;have am:=hid a3;have aa:=hid aI;have ab:=hid aA;have al:=hid aw;have aY:=hid aM;have a6:=hid aG;obtain⟨ay,aJ,aQ,rfl⟩: ∃a n c,sv= .slice a n c:=by
  rcases aM with⟨rfl, -⟩|⟨-,ho⟩
  ·exact⟨_,_,_,rfl⟩
  ·exact qs ho
 obtain⟨aU,aF,aT,rfl⟩: ∃a n c,pv= .slice a n c:=by
  rcases aG with⟨rfl, -⟩|⟨-,ho⟩
  ·exact⟨_,_,_,rfl⟩
  ·exact qs ho
 have bi:b2<w2.heap.size:=by omega
 clear Y Z ac ai aI aA aw a3 aR aO af aM aG aS;go_upto_region 3 with(first|((with_reducible show wpList _ _ _ (Oper.mk none (Op.store 171 _ _) _ _ _ _::_) _ _);refine wpList_store_row rfl 171 _ _ rfl w2.heap.size #[.int .i64 d,.int .i64 (r:Nat),.int .i64 f,.int .i64 p,.int .u32 l,.int .u64 (at_:Nat),.int .u32 0,.int .i64 (row:Nat),.int .i64 i,.slice ay aJ aQ,.slice aU aF aT] rfl rfl 171 _ (Wn _ _) (by kernel_rfl) rfl (by simp[Value.oneCell']) ?_))
 refine qn ?_;intro V hV;obtain⟨b3,D⟩:=Ex w2.heap.size;have aN:V.heap[b3]? =some (.cells #[.int .i64 d,.int .i64 (r:Nat),.int .i64 f,.int .i64 p,.int .u32 l,.int .u64 (at_:Nat),.int .u32 0,.int .i64 (row:Nat),.int .i64 i,.slice ay aJ aQ,.slice aU aF aT] 171 (0,0)):=by rw[hV,←D];exact setRow_heap _ _ _ _ _ _ (Wn _ _)
 have ad:Below b3 w2 V:=by rw[hV,←D];exact below_setRow (Br.alloc Nl _) Nl _
 have a9:=hid (show Below o w V from am.out.trans (ad.mono (by omega)));have Z:=(ad.block o (by omega)).trans aa.out;have ac:=(ad.block (o+1) (by omega)).trans ab.out;have ai:=(ad.block b2 (by omega)).trans al.out;have aZ:=hid (aK.out V W.heap.size (.slice ay aJ aQ) (.slice aU aF aT) (qbh aY.out (D▸ad)) (qbh a6.out (D▸ad)));have bx:b2<b3:=by omega
 have bl:b3<V.heap.size:=(Ai aN).1;have bg:o<V.heap.size:=by omega
 rw[D];have c0:V.cell? ⟨o,0,none⟩=some (.int .i64 k):=qd Z 0;have aS:=hid D;clear hV ad am aa ab al aE D aK aY a6 bi;go_wp2_with ((with_reducible show wpList _ _ _ (Oper.mk _ (Op.load 171 _) _ _ _ _::_) _ _);refine wpList_load_row rfl 171 _ rfl b3 rfl _ _ _ _ aN Tryz.underlying171 rfl (by kernel_rfl) ?_)
 refine aZ.out.mono ?_;rintro e w3 ⟨⟨bv,rfl,az⟩,D⟩;obtain⟨a5,n5,k5,rfl⟩:=qs az;have aj:=qg Z D;have aa:=hid aj;have ab:=hid (qg ac D);have ao:=qg ai D;have al:=hid ao;have bp:=D.size;have a4:=hid (ownsRow_le az (show o≤V.heap.size by omega));have a8:=hid (show Below o w w3 from a9.out.trans (D.mono (by omega)));have c0:w3.cell? ⟨o,0,none⟩=some (.int .i64 k):=qd aj 0;have c5:w3.cell? ⟨o,5,none⟩=some (.int .i64 i):=qd aj 5;have d4:w3.cell? ⟨b2,4,none⟩=some (.bool q4):=qd ao 4;have bf:o+1<w3.heap.size∧o<w3.heap.size∧b2<w3.heap.size:=by omega
 clear D az Z ac ai aN aj ao aZ a9 bp aS bg bl;go_upto_region 5 with(fail)
 refine qn ?_;intro U hU;obtain⟨q,au⟩:=Ex w3.heap.size;have ax:U.heap[q]? =some (.cells #[.int .i64 k,.slice a5 n5 k5,.slice none 0 0,.bool q4,.int .i64 i,.slice da dn dc] 73 (0,0)):=by rw[hU,←au];exact Wn _ _
 have ag:Below q w3 U:=by rw[hU,←au];exact Br.alloc Nl _
 rw[au];have ae:=hid ax;have ak:=hid ((ag.block o (by omega)).trans aa.out);have ap:=hid ((ag.block (o+1) (by omega)).trans ab.out);have aL:=hid ((ag.block b2 (by omega)).trans al.out);have av:=hid (show Below o w U from a8.out.trans (ag.mono (by omega)));have aq:=hid (qi a4.out (fun g _ g2=>ag.block g (by omega)));have bt:=(Ai ax).1;have bq:o+1<q∧o<U.heap.size∧o+1<U.heap.size∧b2<q∧b2<U.heap.size:=by omega
 have c1:U.cell? ⟨o,1,none⟩=some (.int .i64 d):=qd ak.out 1;have c4:U.cell? ⟨q,4,none⟩=some (.int .i64 i):=qd ae.out 4;have d5:U.cell? ⟨b2,5,none⟩=some (.bool q5):=qd aL.out 5;have f4:=frozen_of_row U q 4 _ _ ae.out;clear hU au ag aa ab al a8 a4 c0 c5 d4 bf ax;have bh: ∀(X:World),X.heap[o+1]? =some (.cells #[.int .i64 0,.slice none 0 0,.slice none 0 0,.bool false,.int .i64 0,.slice none 0 0] 73 (0,0))→True:=fun _ _=>trivial
 clear bh;obtain⟨O,hO⟩:=Ex ((if q5 then d else i));have bk: ∃J:World,J=(if q5 then U.setCell ⟨q,4,none⟩ (.int .i64 d) else U)∧J.heap[q]? =some (.cells #[.int .i64 k,.slice a5 n5 k5,.slice none 0 0,.bool q4,.int .i64 O,.slice da dn dc] 73 (0,0))∧J.heap[o]? =some (.cells #[.int .i64 k,.int .i64 d,.int .i64 f,.int .i64 p,.int .u32 l,.int .i64 i,.slice I r G,.slice sa sl sc,.slice pa pl pc] 26 (0,0))∧
   J.heap[o+1]? =some (.cells #[.int .i64 0,.slice none 0 0,.slice none 0 0,.bool false,.int .i64 0,.slice none 0 0] 73 (0,0))∧Below o w J∧J.ownsRow o 5 1 (.slice a5 n5 k5) (mB (TreeV.big ⟨k,d,f,p,l,i,I,r,G,sa,sl,sc,pa,pl,pc⟩)) (BL.map qt):=by
  rw[HB.out]
  cases q5
  ·simp only[Bool.false_eq_true,if_false]at hO⊢;subst hO;exact⟨U,rfl,ae.out,ak.out,ap.out,av.out,aq.out⟩
  ·simp only[if_true]at hO⊢;subst hO;exact⟨_,rfl,heap_setCell_same U q 4 _ _ (.int .i64 d) ae.out,(heap_setCell_other U ⟨q,4,none⟩ o (.int .i64 d) (show o≠q by omega)).trans ak.out,(heap_setCell_other U ⟨q,4,none⟩ (o+1) (.int .i64 d) (show o+1≠q by omega)).trans ap.out,av.out.setCell (show o≤q by omega) _,QA aq.out ae.out 4 (.int .i64 d) (by decide)⟩
 obtain⟨J,bb,e1,e2,e3,e4,e5⟩:=bk;have G1:=hid e1;have G2:=hid e2;have G3:=hid e3;have G4:=hid e4;have G5:=hid e5;have bw:q<J.heap.size∧o<J.heap.size∧o+1<J.heap.size:=by
  have:=(Ai e1).1
  omega
 have aV:Hid (TreeV.outN ⟨k,d,f,p,l,i,I,r,G,sa,sl,sc,pa,pl,pc⟩ q5=O):=hid hO;have aP:=hid bb;clear bb e1 e2 e3 e4 e5 hO;have ba:qdl row (.slice I r G)=if row=0 then .slice I r G else .slice none 0 0:=rfl
 have bz:=hid ba;clear ba
 cases q5
 all_goals go_upto_region 7 with(fail)
 all_goals first|rw[show U=J from aP.out.symm]|rw[show U.setCell ⟨q,4,none⟩ (.int .i64 d)=J from aP.out.symm]
 all_goals clear c1 c4 d5 f4 ae ak ap aL av aq aP
 all_goals by_cases aX:row=0
 all_goals first
 | (
  have hq:((row:Int)==0)=false:=by rw[beq_eq_false_iff_ne];omega
  have aW:qdl row (.slice I r G)= .slice none 0 0:=if_neg aX;go_wp2_with (first|((with_reducible show wpList _ _ _ (Oper.mk _ (Op.load 73 _) _ _ _ _::_) _ _);refine wpList_load_row rfl 73 _ rfl q rfl _ _ _ _ G1.out Tryz.underlying73 rfl (by kernel_rfl) ?_)|((with_reducible show wpList _ _ _ (Oper.mk none (Op.store 73 _ _) _ _ _ _::_) _ _);refine wpList_store_row rfl 73 _ _ rfl (o+1) #[.int .i64 k,.slice a5 n5 k5,.slice none 0 0,.bool q4,.int .i64 O,.slice da dn dc] rfl rfl 73 _ G3.out (by kernel_rfl) rfl (by simp[Value.oneCell']) ?_))
  exact Bp (results_cell_row rfl _ _ _ _ _ _ _ rfl (setRow_heap _ _ _ _ _ _ G3.out) Tryz.underlying73 rfl (by kernel_rfl)) rfl (by(try rw[ah]);rw[aV.out];(try rw[aW]);exact⟨_,rfl,Qd G5.out G3.out (by decide),below_setRow G4.out (by omega) _⟩))
 | (
  subst aX;have aW:qdl 0 (.slice I r G)= .slice I r G:=rfl;have c6:J.cell? ⟨o,6,none⟩=some (.slice I r G):=qd G2.out 6;have c2:J.cell? ⟨q,2,none⟩=some (.slice none 0 0):=qd G1.out 2;have f2:=frozen_of_row J q 2 _ _ G1.out;go_upto_region 9 with(fail)
  have K1:=hid (heap_setCell_same J q 2 _ _ (.slice I r G) G1.out);have K3:=hid ((heap_setCell_other J ⟨q,2,none⟩ (o+1) (.slice I r G) (show o+1≠q by omega)).trans G3.out);have K4:=hid (show Below o w (J.setCell ⟨q,2,none⟩ (.slice I r G)) from G4.out.setCell (show o≤q by omega) _);have K5:=hid (QA G5.out G1.out 2 (.slice I r G) (by decide));clear c6 c2 f2;generalize J.setCell ⟨q,2,none⟩ (.slice I r G)=U7 at*;go_wp2_with (first|((with_reducible show wpList _ _ _ (Oper.mk _ (Op.load 73 _) _ _ _ _::_) _ _);refine wpList_load_row rfl 73 _ rfl q rfl _ _ _ _ K1.out Tryz.underlying73 rfl (by kernel_rfl) ?_)|((with_reducible show wpList _ _ _ (Oper.mk none (Op.store 73 _ _) _ _ _ _::_) _ _);refine wpList_store_row rfl 73 _ _ rfl (o+1) #[.int .i64 k,.slice a5 n5 k5,.slice I r G,.bool q4,.int .i64 O,.slice da dn dc] rfl rfl 73 _ K3.out (by kernel_rfl) rfl (by simp[Value.oneCell']) ?_))
  exact Bp (results_cell_row rfl _ _ _ _ _ _ _ rfl (setRow_heap _ _ _ _ _ _ K3.out) Tryz.underlying73 rfl (by kernel_rfl)) rfl (by(try rw[ah]);rw[aV.out];(try rw[aW]);exact⟨_,rfl,Qd K5.out K3.out (by decide),below_setRow K4.out (by omega) _⟩))
end Go.Proofs.YthjoojnlnlmljaaGreat
