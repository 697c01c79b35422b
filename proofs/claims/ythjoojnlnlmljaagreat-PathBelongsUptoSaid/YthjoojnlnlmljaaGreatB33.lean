/- A block of parameters out of its numbers, by the program. No condition. -/
import Derived.Test.YthjoojnlnlmljaaGreatP00
import Derived.Test.YthjoojnlnlmljaaGreatP01
import Derived.Test.YthjoojnlnlmljaaGreatB31
import Derived.Test.YthjoojnlnlmljaaGreatB24
import Derived.Test.YthjoojnlnlmljaaGreatB32
import Derived.Test.YthjoojnlnlmljaaGreatB29
import Derived.Test.YthjoojnlnlmljaaGreatB28
import Derived.Test.YthjoojnlnlmljaaGreatB04
import Derived.Great.BuildSlice
import Derived.Laws.CopyOwn
set_option linter.all false
set_option maxRecDepth 100000
set_option maxHeartbeats 8000000
namespace Go.Proofs.YthjoojnlnlmljaaGreat
open Go.ChangeShapes Go.WideShapes Go.ChangeAt Go.RowKit Go.Joins Go.Shelf Go.Maps
open Go.Lib (hid)
attribute [local go_sem] Oper.semAt_some
theorem qhK {big:Bool}{v:Nat→Nat}(D:ParOk big v)(a1 a2:Option Addr){o q:Nat}(c1 c2:Nat)(r:o≤sB big)(G:q≤sB big)(w:World):
  Calls Tryz.prog 130 #[.int .i64 (kB big),parN v (.slice a1 o c1) (.slice a2 q c2)] w fun e w'=>e= .returned (.int .i64 0)∧Below w.heap.size w w':=by
 unfold parN;rw[D.x0];exact qca big _ _ _ _ _ _ _ _ a1 a2 o q c1 c2 w D.p r G
theorem qdb (big:Bool)(v:Nat→Nat)(z1 z2:List Int)(sa pe:Value)(w:World)(hP:ParOk big v)(h1:Hold w sa z1)(h2:Hold w pe z2)(U:z1.length≤sB big)(X:z2.length≤sB big):
  Calls Tryz.prog 100 #[.int .i64 (kB big),parN v sa pe] w fun e w'=>(∃r,e= .returned (.tuple #[r,.int .i64 0])∧w'.ownsRow w.heap.size 5 1 r (mB big) ((QT big v z1 z2).map qo))∧Below w.heap.size w w':=by
 obtain⟨a1,c1,rfl,bP,bO⟩:=h1.slice;obtain⟨a2,c2,rfl,bL,bu⟩:=h2.slice;obtain⟨i0,hi,bv,aG,bz⟩:=info_parts Ql;obtain⟨o,af⟩:=Ex w.heap.size;have aD:=hid (qhK hP a1 a2 c1 c2 U X);have a6:Below o w (w.alloc (.cells #[.int .i64 (v 1),.int .i64 (v 2),.int .i64 (v 3),.int .i64 (v 4),.int .u32 (v 5),.int .u64 (v 6),.int .u32 (v 7),.int .i64 (v 8),.int .i64 (v 9),.slice a1 z1.length c1,.slice a2 z2.length c2] 171)):=by rw[←af];exact Br.alloc Nl _
 have aj:=Wn w (.cells #[.int .i64 (v 1),.int .i64 (v 2),.int .i64 (v 3),.int .i64 (v 4),.int .u32 (v 5),.int .u64 (v 6),.int .u32 (v 7),.int .i64 (v 8),.int .i64 (v 9),.slice a1 z1.length c1,.slice a2 z2.length c2] 171);rw[af]at aj;have bH:=hid h1;have bQ:=hid h2;have ay:=hid hP;have ar:=hid U;have az:=hid X;clear hP h1 h2 U X bP bO bL bu;unfold parN parV;unfold parN parV at aD;go_enter Tryz.func100,Tryz.ntmps100
 go_upto_region 1 with(fail)
 generalize w.alloc (.cells #[.int .i64 (v 1),.int .i64 (v 2),.int .i64 (v 3),.int .i64 (v 4),.int .u32 (v 5),.int .u64 (v 6),.int .u32 (v 7),.int .i64 (v 8),.int .i64 (v 9),.slice a1 z1.length c1,.slice a2 z2.length c2] 171)=wA at*;go_wp2_with (refine L171 o rfl aj ?_)
 refine(aD.out wA).mono ?_;rintro e w1 ⟨rfl,ax⟩;have ba:=qf aj ax;have ah:=ax.size;have br:o<wA.heap.size:=(Ai aj).1;have bX:o<w1.heap.size:=by omega
 have bg:=hid ba;have aZ:=hid (show Below o w w1 from a6.trans (ax.mono (by omega)));clear ax a6 aj ba ah br aD;go_wp2_with fail
 refine(jf big _).mono ?_;rintro e w2 ⟨rfl,hw⟩;rw[hw];clear hw w2;obtain⟨M,hM⟩:=Ex (mB big);obtain⟨S,hS⟩:=Ex (sB big);have bw:4*S=M:=by rw[←hM,←hS];cases big<;>rfl
 have bI:8≤S∧S≤16:=by rw[←hS];cases big<;>decide
 rw[hM,hS];have aV:=fun W:World=>run_make (P:=Tryz.prog) W 24 5 i0 (.int .u8 0) Tryz.underlying24 hi bv .i64 .i64 M M (by omega) (by omega) (by rw[bz];omega) (by omega)
 simp only[aG]at aV;go_wp2_with fail
 obtain⟨g,hg⟩:=Ex w1.heap.size;have be:madeCells Kc M=((List.replicate M (0:Int)).map qo).toArray:=by
  apply Array.toList_inj.1
  rw[toList_madeCells_one];simp[qo]
 have bk:RowB (w1.alloc (.cells (madeCells Kc M) 5)) g (QD big (v 7==0) v 0):=by
  unfold RowB;rw[be,←hg,←hM];exact Wn _ _
 have aT:Below o w (w1.alloc (.cells (madeCells Kc M) 5)):=aZ.out.alloc (by omega) _;have aX:(w1.alloc (.cells (madeCells Kc M) 5)).heap[o]? =some (.cells #[.int .i64 (v 1),.int .i64 (v 2),.int .i64 (v 3),.int .i64 (v 4),.int .u32 (v 5),.int .u64 (v 6),.int .u32 (v 7),.int .i64 (v 8),.int .i64 (v 9),.slice a1 z1.length c1,.slice a2 z2.length c2] 171 (0,0)):=by
  rw[Bh _ _ _ (by omega)];exact bg.out
 have bK:(w1.alloc (.cells (madeCells Kc M) 5)).heap.size=g+1:=by simp[hg]
 rw[hg];generalize w1.alloc (.cells (madeCells Kc M) 5)=w5 at*;refine(qib big _).mono ?_;rintro e w6 ⟨⟨rb,rfl,b8,aR⟩,ag⟩;have cb:=ag.size;have bC:=hid (show RowB w6 g (QD big (v 7==0) v 0) from(ag.block g (by omega)).trans bk);have bD:=hid ((ag.block o (by omega)).trans aX);have bx:=hid (show Below o w w6 from aT.trans (ag.mono (by omega)));obtain⟨aS,ap,aa⟩:=aR;have bR:rb<w6.heap.size:=(Ai ap).1;have bs:=hid ap;have bp:=hid aa;have cc:o<g∧g<rb:=by omega
 clear bk aX aT ag ap aa be aV bg aZ bK;go_wp2_with fail
 go_loopw [30] (fun i wr=> ∃k:Nat,i= .int .i64 k∧k≤9∧RowB wr g (QD big (v 7==0) v k)∧But g w6 wr) (fun i _=>9 - (intOf i).toNat)
 case atStart=>exact⟨0,rfl,by omega,bC.out,But.refl _ _⟩
 case round=>
  obtain⟨k,rfl,hk,aa,hb⟩:=hrel;have HW:=hid aa;have HB:=hid hb;have bE:=hb.size;have ae:=QW big (v 7==0) v k hk;have au:wr.heap[o]? =some (.cells #[.int .i64 (v 1),.int .i64 (v 2),.int .i64 (v 3),.int .i64 (v 4),.int .u32 (v 5),.int .u64 (v 6),.int .u32 (v 7),.int .i64 (v 8),.int .i64 (v 9),.slice a1 z1.length c1,.slice a2 z2.length c2] 171 (0,0)):=(hb.block o (by omega) (by omega)).trans bD.out;by_cases aY:k<9
  case pos=>
   obtain⟨nm,am,q0,q1,q2,q3,q4,q5,q6⟩:=bp.out k aY;have bc:=hid ((hb.block rb (by omega) (by omega)).trans bs.out);have HQ:=hid (show ∀j,j<5→aS[k*5+j]? =(#[.int .i64 ((k+1:Nat):Int),.int .i64 (atB big (k+1):Nat),.int .i64 (szB big (k+1):Nat),nm,am]:Array Value)[j]? from fun j hj=>by
    rcases(show j=0∨j=1∨j=2∨j=3∨j=4 by omega)with rfl|rfl|rfl|rfl|rfl
    ·exact q0
    ·exact q1
    ·exact q2
    ·exact q3
    ·exact q4)
   have H1:=hid (show(#[.int .i64 ((k+1:Nat):Int),.int .i64 (atB big (k+1):Nat),.int .i64 (szB big (k+1):Nat),nm,am]:Array Value).all (·.oneCell')=true by simp only[List.all_toArray,List.all_cons,List.all_nil,q5,q6];rfl);have bZ:(k:Int)<9:=by omega
   have ai:=hid au;clear q0 q1 q2 q3 q4 q5 q6 aa hb au;go_upto_region 9 with(first|((with_reducible show wpList _ _ _ (Oper.mk _ (Op.load 219 _) _ _ _ _::_) _ _);refine wpList_plain rfl fun K hK=>Qs 219 _ rfl rb (k*5) (by kernel_rfl) 219 aS #[.int .i64 ((k+1:Nat):Int),.int .i64 (atB big (k+1):Nat),.int .i64 (szB big (k+1):Nat),nm,am] (0,0) _ bc.out Tryz.underlying219 rfl (by kernel_rfl) HQ.out (hK _ _ ?_))|((with_reducible show wpList _ _ _ (Oper.mk none (Op.store 219 _ _) _ _ _ _::_) _ _);refine wpList_store_row rfl 219 _ _ rfl wr.heap.size #[.int .i64 ((k+1:Nat):Int),.int .i64 (atB big (k+1):Nat),.int .i64 (szB big (k+1):Nat),nm,am] rfl rfl 219 _ (Wn _ _) (by kernel_rfl) rfl H1.out ?_))
   refine qm ?_;intro Wq aO;obtain⟨q,hq⟩:=Ex wr.heap.size;have aw:Wq.heap[q]? =some (.cells #[.int .i64 ((k+1:Nat):Int),.int .i64 (atB big (k+1):Nat),.int .i64 (szB big (k+1):Nat),nm,am] 219 (0,0)):=by rw[aO,←hq];exact setRow_heap _ _ _ _ _ _ (Wn _ _)
   have ab:Below q wr Wq:=by rw[aO,←hq];exact below_setRow (Br.alloc Nl _) Nl _
   rw[hq];have ca:g<q∧o<q:=by omega
   have bf:But g w6 Wq:=HB.out.trans ⟨ab.os,ab.tape,ab.output,ab.size,fun j hj _=>ab.block j (by omega)⟩;have aE:=hid (show RowB Wq g (QD big (v 7==0) v k) from(ab.block g (by omega)).trans HW.out);have aB:=hid ((ab.block o (by omega)).trans ai.out);have aJ:=hid aw;have aK:=hid bf;have bM:q<Wq.heap.size:=(Ai aw).1;have c0:Wq.cell? ⟨q,0,none⟩=some (.int .i64 ((k+1:Nat):Int)):=qd aw 0;clear aO hq bc HQ H1 HW HB ai aw ab bf;by_cases h7:k=6
   case pos=>
    subst h7;have c6:Wq.cell? ⟨o,6,none⟩=some (.int .u32 (v 7)):=qd aB.out 6;have bV:o<Wq.heap.size:=by omega
    have ce:((v 7:Int)==0)=true:=by rw[ay.out.x0];rfl
    go_wp2
    refine⟨⟨7,rfl,by omega,?_,aK.out⟩,by simp[intOf]⟩;have e:QD big (v 7==0) v 7=QD big (v 7==0) v 6:=by rw[QD,if_pos ⟨rfl,by rw[ay.out.x0];rfl⟩]
    rw[e];exact aE.out
   have h8: ¬((k:Int)=6):=by omega
   have bq:szB big (k+1)≤8∧atB big (k+1)+szB big (k+1)≤M:=by
    rw[←hM];rcases(show k=0∨k=1∨k=2∨k=3∨k=4∨k=5∨k=6∨k=7∨k=8 by omega)with rfl|rfl|rfl|rfl|rfl|rfl|rfl|rfl|rfl<;>cases big<;>decide
   have a5:=hid bq;go_upto_region 10 with(fail)
   refine qI (n:=9) (w0:=Wq) (B:=Wq.heap.size) [.v 42 (.slice (some ⟨g,0,none⟩) M M),.z 43 q 1,.v 44 (.int .i64 (atB big (k+1):Nat)),.z 45 q 2,.v 46 (.int .i64 (szB big (k+1):Nat)),.v 47 (.agg #[.int .i64 (v 1),.int .i64 (v 2),.int .i64 (v 3),.int .i64 (v 4),.int .u32 (v 5),.int .u64 (v 6),.int .u32 (v 7),.int .i64 (v 8),.int .i64 (v 9),.slice a1 z1.length c1,.slice a2 z2.length c2]),.z 48 q 0,.v 49 (.int .i64 ((k+1:Nat):Int)),.v 50 (.int .u64 (v (k+1):Nat))] trivial Br.drew Nl ?_ ?_
   ·repeat' (with_reducible first|exact qB|refine qw ?_ ?_)
    all_goals try
     intro A x W J G V I D K hK;have ak:=J.2 10 (by decide);conv at ak=>rhs;whnf
     have bN:=J.2 12 (by decide);conv at bN=>rhs;whnf
     simp only[Q7,yk]at D;clear I J;have y:=qf aJ.out G;have y0:W.cell? ⟨q,0,none⟩=some (.int .i64 ((k+1:Nat):Int)):=qd y 0;have y1:W.cell? ⟨q,1,none⟩=some (.int .i64 (atB big (k+1):Nat)):=qd y 1;have y2:W.cell? ⟨q,2,none⟩=some (.int .i64 (szB big (k+1):Nat)):=qd y 2;have y3:q<W.heap.size:=by omega
     go_simp
     exact hK _ _ BR rfl
    ·intro A x W J G V I _ K hK;have a3:=J.2 3 (by decide);conv at a3=>rhs;whnf
     clear I J;exact Qs 171 _ rfl o 0 a3 171 #[.int .i64 (v 1),.int .i64 (v 2),.int .i64 (v 3),.int .i64 (v 4),.int .u32 (v 5),.int .u64 (v 6),.int .u32 (v 7),.int .i64 (v 8),.int .i64 (v 9),.slice a1 z1.length c1,.slice a2 z2.length c2] #[.int .i64 (v 1),.int .i64 (v 2),.int .i64 (v 3),.int .i64 (v 4),.int .u32 (v 5),.int .u64 (v 6),.int .u32 (v 7),.int .i64 (v 8),.int .i64 (v 9),.slice a1 z1.length c1,.slice a2 z2.length c2] (0,0) _ (qf aB.out G) Tryz.underlying171 rfl (by kernel_rfl) (fun j _=>by rw[Nat.zero_add]) (hK _ _ BR rfl)
    ·intro A x W J G V I _ K hK;have cd:=gv J I 5 47;have b5:=gv J I 7 49;clear I J;go_simp
     refine(show Calls Tryz.prog 136 #[.agg #[.int .i64 (v 1),.int .i64 (v 2),.int .i64 (v 3),.int .i64 (v 4),.int .u32 (v 5),.int .u64 (v 6),.int .u32 (v 7),.int .i64 (v 8),.int .i64 (v 9),.slice a1 z1.length c1,.slice a2 z2.length c2],.int .i64 ((k+1:Nat):Int)] W _ from qhT ay.out (.slice a1 z1.length c1) (.slice a2 z2.length c2) (k+1) (by omega) (by omega) W).mono ?_;rintro r w3 ⟨rfl,aA⟩
     exact hK _ _ aA rfl
   intro x W G V ac;clear ac;refine qr ?_;simp only[QP,Act.put,Ls];have bF:=hid (show RowB W g (QD big (v 7==0) v k) from(G.block g (by omega)).trans aE.out);have bJ:=hid (show But g w6 W from aK.out.trans ⟨G.os,G.tape,G.output,G.size,fun j hj _=>G.block j (by omega)⟩);clear c0 G V aE aB aJ aK bM;go_wp2_with fail
   refine(qj2 (QD big (v 7==0) v k) g M M (atB big (k+1)) (szB big (k+1)) a5.out.1 (by rw[ae,hM];exact a5.out.2) (by rw[ae,hM]) Nl (by omega) (v (k+1)) (ay.out.le (k+1) (by omega) (by omega)) W bF.out).mono ?_;rintro r w4 ⟨rfl,U,X⟩;have ar:=hid U;have az:=hid X;clear U X;go_wp2_with fail
   refine qv ?_;go_wp2
   refine⟨⟨k+1,rfl,by omega,?_,bJ.out.trans az.out⟩,by simp[intOf];omega⟩;have e:QD big (v 7==0) v (k+1)=Qn (QD big (v 7==0) v k) (atB big (k+1)) (qD (v (k+1)) (szB big (k+1))):=by rw[QD,if_neg (fun h=>h7 (by omega))]
   rw[e];exact ar.out
  obtain rfl:k=9:=by omega
  clear aY hk;have av:=hid (show QT big v z1 z2=Qn (Qn (QD big (v 7==0) v 9) (2*S) z1) (3*S) z2 by rw[←hS];rfl);have hE:(QD big (v 7==0) v 9).length=M:=ae.trans hM;obtain⟨E,aU⟩: ∃E,QD big (v 7==0) v 9=E:=⟨_,rfl⟩;rw[aU]at hE av HW;clear aa hb ae aU;obtain⟨O,a4⟩:=Ex (2*S);obtain⟨Y,aW⟩:=Ex (3*S);rw[a4,aW]at av;have e2:(M:Int) - 2*(S:Int)=(O:Int):=by omega
  have e3:(M:Int) - (S:Int)=(Y:Int):=by omega
  have aC:z1.length≤S:=by have:=ar.out;omega
  have aH:z2.length≤S:=by have:=az.out;omega
  have bd:O+S≤M∧Y+S≤M∧O<M∧Y<M∧S≤16∧M≤64:=by omega
  have al:=hid bd;have bb:=hid aC;have a8:=hid aH;have HE:=hid hE;have b3: ¬(M=O):=by omega
  have b9: ¬(M=Y):=by omega
  have k2:(O:Int)≤(M:Int):=by omega
  have k3:(Y:Int)≤(M:Int):=by omega
  have ai:=hid au;have bU:o<wr.heap.size∧g<wr.heap.size:=by omega
  have b6:IntKind.i64.wrap (2*(S:Int))=2*(S:Int):=by rw[IntKind.wrap_i64];omega
  have b4:IntKind.i64.wrap (O:Int)=(O:Int):=by rw[IntKind.wrap_i64];omega
  have b7:IntKind.i64.wrap (Y:Int)=(Y:Int):=by rw[IntKind.wrap_i64];omega
  have bG:=hid (show Below o w wr from bx.out.trans (HB.out.below (by omega) (by omega)));clear bw bI aC aH bd a4 aW hE au bE;go_upto_region 12 with(fail)
  refine qI (n:=8) (w0:=wr) (B:=wr.heap.size) [.v 53 (.slice (some ⟨g,0,none⟩) M M),.v 54 (.int .i64 M),.v 55 (.int .i64 S),.v 56 (.int .i64 (2*(S:Int))),.v 57 (.int .i64 O),.v 58 (.slice (some ⟨g,O,none⟩) (M - O) (M - O)),.z 59 o 9,.v 60 (.slice a1 z1.length c1)] trivial Br.drew Nl ?_ ?_
  ·repeat' (with_reducible first|exact qB|refine qw ?_ ?_)
   all_goals
    intro A x W J G V I D K hK;have a3:=J.2 3 (by decide);conv at a3=>rhs;whnf
    have ak:=J.2 10 (by decide);conv at ak=>rhs;whnf
    have a7:=J.2 7 (by decide);conv at a7=>rhs;whnf
    have a9:=J.2 9 (by decide);conv at a9=>rhs;whnf
    simp only[Q7,yk]at D;clear I J;have y:=qf ai.out G;have y0:W.cell? ⟨o,9,none⟩=some (.slice a1 z1.length c1):=qd y 9;have y3:o<W.heap.size:=by omega
    go_simp
    exact hK _ _ BR rfl
  intro x W G V ac;clear ac;refine qr ?_;simp only[QP,Act.put,Ls];have aq:Below o w W:=bG.out.trans (G.mono (by omega));have ah:=(bH.out.below (af▸aq)).src;have bj:W.heap[g]? =some (.cells (E.map qo).toArray 5 (0,0)):=(G.block g (by omega)).trans HW.out;have aF:=hid (qf ai.out G);have U:O+z1.length≤(E).length:=by have:=al.out;have:=bb.out;have:=HE.out;omega
  have bl:=hid U;have aQ:=hid aq;refine wpList_copy_splice rfl _ _ _ _ rfl 5 Tryz.underlying24 (by rw[hi];simp[aG]) _ _ _ _ _ _ rfl rfl g O (E.map qo) 5 bj (z1.map qo) (by rw[List.length_map];have:=al.out;have:=bb.out;exact(Nat.min_eq_left (by omega)).symm) (fun h0=>⟨rfl,by
   rcases ah.2.2 with⟨-,h2⟩|⟨ad,c,e,h2⟩
   ·rw[List.length_map]at h0;omega
   ·simp only[Value.slice.injEq]at e;exact⟨ad,e.1,h2⟩⟩) (by rw[List.length_map,List.length_map];exact U) ah.2.1 g W Br Nl ?_
  intro V1 an Z;have bm:=hid (show RowB V1 g (Qn E O z1) from an.out.trans (by unfold splice Qn;simp[List.append_assoc]));have bo:=hid (show Below o w V1 from aQ.out.trans (Z.mono (by omega)));have aM:=hid ((Z.block o (by omega)).trans aF.out);have bY:o<V1.heap.size∧g<V1.heap.size:=by have:=Z.size;omega
  clear ah bj U an Z aF aQ aq G V;go_wp2_with fail
  refine qv ?_;go_upto_region 13 with(fail)
  refine qI (n:=7) (w0:=V1) (B:=V1.heap.size) [.v 62 (.slice (some ⟨g,0,none⟩) M M),.v 63 (.int .i64 M),.v 64 (.int .i64 S),.v 65 (.int .i64 Y),.v 66 (.slice (some ⟨g,Y,none⟩) (M - Y) (M - Y)),.z 67 o 10,.v 68 (.slice a2 z2.length c2)] trivial Br.drew Nl ?_ ?_
  ·repeat' (with_reducible first|exact qB|refine qw ?_ ?_)
   all_goals
    intro A x W J G V I D K hK;have a3:=J.2 3 (by decide);conv at a3=>rhs;whnf
    have ak:=J.2 10 (by decide);conv at ak=>rhs;whnf
    have a7:=J.2 7 (by decide);conv at a7=>rhs;whnf
    have a9:=J.2 9 (by decide);conv at a9=>rhs;whnf
    simp only[Q7,yk]at D;clear I J;have y:=qf aM.out G;have y0:W.cell? ⟨o,10,none⟩=some (.slice a2 z2.length c2):=qd y 10;have y3:o<W.heap.size:=by omega
    go_simp
    exact hK _ _ BR rfl
  have bi:(Qn E O z1).length=M:=by rw[Qq bl.out];exact HE.out
  have bA:=hid bi;clear bi;intro x W G V ac;clear ac;refine qr ?_;simp only[QP,Act.put,Ls];have ao:Below o w W:=bo.out.trans (G.mono (by omega));have aL:=(bQ.out.below (af▸ao)).src;have bh:W.heap[g]? =some (.cells ((Qn E O z1).map qo).toArray 5 (0,0)):=(G.block g (by omega)).trans bm.out;have aI:=hid (qf aM.out G);have X:Y+z2.length≤((Qn E O z1)).length:=by have:=al.out;have:=a8.out;have:=bA.out;omega
  have bT:=hid X;have aP:=hid ao;refine wpList_copy_splice rfl _ _ _ _ rfl 5 Tryz.underlying24 (by rw[hi];simp[aG]) _ _ _ _ _ _ rfl rfl g Y ((Qn E O z1).map qo) 5 bh (z2.map qo) (by rw[List.length_map];have:=al.out;have:=a8.out;exact(Nat.min_eq_left (by omega)).symm) (fun h0=>⟨rfl,by
   rcases aL.2.2 with⟨-,h2⟩|⟨ad,c,e,h2⟩
   ·rw[List.length_map]at h0;omega
   ·simp only[Value.slice.injEq]at e;exact⟨ad,e.1,h2⟩⟩) (by rw[List.length_map,List.length_map];exact X) aL.2.1 g W Br Nl ?_
  intro V2 an Z;have bn:=hid (show RowB V2 g (Qn (Qn E O z1) Y z2) from an.out.trans (by unfold splice Qn;simp[List.append_assoc]));have bt:=hid (show Below o w V2 from aP.out.trans (Z.mono (by omega)));have bS:=hid ((Z.block o (by omega)).trans aI.out);have bW:o<V2.heap.size∧g<V2.heap.size:=by have:=Z.size;omega
  clear aL bh X an Z aI aP ao G V;go_wp2_with fail
  refine qv ?_;go_wp2
  go_ret2
  have aN:=yv (big:=big) (v:=v) ar.out az.out;have aA:(Qn (Qn E O z1) Y z2).length=M:=by rw[←av.out,aN,hM]
  refine⟨⟨_,rfl,by rw[List.length_map,aN];omega,.inr ⟨g,M,_,by rw[hM];rfl,by omega,bn.out,by omega,by have:=al.out;unfold maxLen;omega,?_,?_⟩⟩,by rw[af];exact bt.out⟩
  ·rw[List.size_toArray,List.length_map,aA];omega
  ·rw[←av.out];exact List.take_of_length_le (by rw[List.length_map,aN];omega)
theorem qhw (bs kz:List Int)(I:Int)(bv kv:Value)(w:World)(hB:Hold w bv bs)(hK:Hold w kv kz)(hl:bs.length=64)(aq:kz.length≤64):
  Calls Tryz.prog 98 #[.int .i64 1,bv,.int .i64 I,kv] w fun e w'=> ∃np p Y au aw,e= .returned (.pointer (some ⟨np,0,none⟩))∧w.heap.size≤np∧w.heap.size≤p∧w'.heap[np]? =some (.cells (yr 1 I au aw false 0 (.iface 277 (.pointer (some ⟨p,0,none⟩)))) 179 (0,0))∧Q1 true w' p Y (h0Z true bs) (yz 128 kz)∧(∀g,Y.ownBlock=some g→w.heap.size≤g)∧Below w.heap.size w w':=by
 obtain⟨i0,hi,ad,ac,am⟩:=info_parts Ql;obtain⟨b0,ay⟩:=Ex w.heap.size;have D:=hB.src;have S:=hK.src;rw[hl]at D;have av:=hid D;have ap:=hid S;have ar:=hid hB.1;have ao:=hid hK.1;have HL:=hid hl;clear D S hB hK hl;go_enter Tryz.func98,Tryz.ntmps98
 go_upto_region 2 with(first|((with_reducible show wpList _ _ _ (Oper.mk (some 13) _ _ _ _ _::_) _ _);refine qU rfl _ _ _ rfl w w.heap.size rfl Br 5 i0 (.int .u8 0) 1 Tryz.underlying24 hi ad ac am rfl _ 0 [] rfl (Wo _ _ _ _) bv 64 _ rfl av.out (by unfold maxLen;omega) (by omega) ?_;intro v1 w1 q ag;have Z:=hid q;have U:=hid ag;clear q ag)|((with_reducible show wpList _ _ _ (Oper.mk (some 15) _ _ _ _ _::_) _ _);refine qU rfl _ _ _ rfl w1 w1.heap.size rfl Br 5 i0 (.int .u8 0) 1 Tryz.underlying24 hi ad ac am rfl _ 0 [] rfl (Wo _ _ _ _) kv kz.length _ rfl (ap.out.below U.out) (by unfold maxLen;omega) (by omega) ?_;intro v2 r o ah;obtain⟨a1,n1,c1,rfl⟩:=qs Z.out;obtain⟨a2,V,c2,rfl⟩:=qs o;have aa:=hid o;have O:=hid ah;clear o ah))
 have D:=U.out.size;have S:=O.out.size;have J:Below r.heap.size r (r.alloc (.cells (yr 1 I (.slice a1 n1 c1) (.slice a2 V c2) false 0 .nilIface) 179)):=Br.alloc Nl _;have ae:=Wn r (.cells (yr 1 I (.slice a1 n1 c1) (.slice a2 V c2) false 0 .nilIface) 179);have q:=Z.out;have o:=aa.out;simp only[List.nil_append,Nat.zero_add]at q o;have q:=qi q (fun g _ hg=>O.out.block g hg);have ai:=(Qi q ar.out).below J;have aj:=(Qi o ao.out).below J;have af:(Value.slice a2 V c2).ownBlock≠some r.heap.size:=fun e=>by
  rcases o.2 with⟨h, -⟩|⟨g,az,ax,h,h1,X, -⟩
  ·rw[h]at e;cases e
  ·rw[h]at e;simp only[Value.ownBlock,Option.some.injEq]at e;have:=(Ai X).1;omega
 have ab:=qgA bs kz r.heap.size I 0 false (.slice a1 n1 c1) (.slice a2 V c2) .nilIface _ ae ai aj HL.out aq af;have ak:Below w.heap.size w (r.alloc (.cells (yr 1 I (.slice a1 n1 c1) (.slice a2 V c2) false 0 .nilIface) 179)):=U.out.trans ((O.out.trans (J.mono S)).mono D);have al:=hid ab;have G:=hid ak;clear ab ak J ae q o ai aj af Z aa U O;go_wp2_with fail
 refine al.out.mono ?_;rintro e w4 ⟨rfl,⟨p,Y,h1,X,h3,h4⟩,h5⟩;have HF:=hid (show w.heap.size≤p∧w4.heap[r.heap.size]? =some (.cells (yr 1 I (.slice a1 n1 c1) (.slice a2 V c2) false 0 (.iface 277 (.pointer (some ⟨p,0,none⟩)))) 179 (0,0))∧Q1 true w4 p Y (h0Z true bs) (yz 128 kz)∧(∀g,Y.ownBlock=some g→w.heap.size≤g)∧Below w.heap.size w w4 from⟨by have:=G.out.size;omega,X,h3,fun g hg=>by have:=h4 g hg;have:=G.out.size;omega,G.out.trans (h5.below G.out.size (fun k hk=>by omega))⟩);clear h1 X h3 h4 h5 al G;have an:w.heap.size≤r.heap.size:=by omega
 go_wp2
 go_ret
 obtain⟨h1,X,h3,h4,h5⟩:=HF.out;exact⟨_,p,Y,_,_,rfl,an,h1,X,h3,h4,h5⟩
theorem qf6 (bs kz:List Int)(I:Int)(bv kv:Value)(w:World)(hB:Hold w bv bs)(hK:Hold w kv kz)(hl:bs.length=32)(aq:kz.length≤32):
  Calls Tryz.prog 98 #[.int .i64 2,bv,.int .i64 I,kv] w fun e w'=> ∃np p Y au aw,e= .returned (.pointer (some ⟨np,0,none⟩))∧w.heap.size≤np∧w.heap.size≤p∧w'.heap[np]? =some (.cells (yr 2 I au aw false 0 (.iface 287 (.pointer (some ⟨p,0,none⟩)))) 179 (0,0))∧Q1 false w' p Y (h0Z false bs) (yz 64 kz)∧(∀g,Y.ownBlock=some g→w.heap.size≤g)∧Below w.heap.size w w':=by
 obtain⟨i0,hi,ad,ac,am⟩:=info_parts Ql;obtain⟨b0,ay⟩:=Ex w.heap.size;have D:=hB.src;have S:=hK.src;rw[hl]at D;have av:=hid D;have ap:=hid S;have ar:=hid hB.1;have ao:=hid hK.1;have HL:=hid hl;clear D S hB hK hl;go_enter Tryz.func98,Tryz.ntmps98
 go_upto_region 2 with(first|((with_reducible show wpList _ _ _ (Oper.mk (some 13) _ _ _ _ _::_) _ _);refine qU rfl _ _ _ rfl w w.heap.size rfl Br 5 i0 (.int .u8 0) 1 Tryz.underlying24 hi ad ac am rfl _ 0 [] rfl (Wo _ _ _ _) bv 32 _ rfl av.out (by unfold maxLen;omega) (by omega) ?_;intro v1 w1 q ag;have Z:=hid q;have U:=hid ag;clear q ag)|((with_reducible show wpList _ _ _ (Oper.mk (some 15) _ _ _ _ _::_) _ _);refine qU rfl _ _ _ rfl w1 w1.heap.size rfl Br 5 i0 (.int .u8 0) 1 Tryz.underlying24 hi ad ac am rfl _ 0 [] rfl (Wo _ _ _ _) kv kz.length _ rfl (ap.out.below U.out) (by unfold maxLen;omega) (by omega) ?_;intro v2 r o ah;obtain⟨a1,n1,c1,rfl⟩:=qs Z.out;obtain⟨a2,V,c2,rfl⟩:=qs o;have aa:=hid o;have O:=hid ah;clear o ah))
 have D:=U.out.size;have S:=O.out.size;have J:Below r.heap.size r (r.alloc (.cells (yr 2 I (.slice a1 n1 c1) (.slice a2 V c2) false 0 .nilIface) 179)):=Br.alloc Nl _;have ae:=Wn r (.cells (yr 2 I (.slice a1 n1 c1) (.slice a2 V c2) false 0 .nilIface) 179);have q:=Z.out;have o:=aa.out;simp only[List.nil_append,Nat.zero_add]at q o;have q:=qi q (fun g _ hg=>O.out.block g hg);have ai:=(Qi q ar.out).below J;have aj:=(Qi o ao.out).below J;have af:(Value.slice a2 V c2).ownBlock≠some r.heap.size:=fun e=>by
  rcases o.2 with⟨h, -⟩|⟨g,az,ax,h,h1,X, -⟩
  ·rw[h]at e;cases e
  ·rw[h]at e;simp only[Value.ownBlock,Option.some.injEq]at e;have:=(Ai X).1;omega
 have ab:=qfj bs kz r.heap.size I 0 false (.slice a1 n1 c1) (.slice a2 V c2) .nilIface _ ae ai aj HL.out aq af;have ak:Below w.heap.size w (r.alloc (.cells (yr 2 I (.slice a1 n1 c1) (.slice a2 V c2) false 0 .nilIface) 179)):=U.out.trans ((O.out.trans (J.mono S)).mono D);have al:=hid ab;have G:=hid ak;clear ab ak J ae q o ai aj af Z aa U O;go_wp2_with fail
 refine al.out.mono ?_;rintro e w4 ⟨rfl,⟨p,Y,h1,X,h3,h4⟩,h5⟩;have HF:=hid (show w.heap.size≤p∧w4.heap[r.heap.size]? =some (.cells (yr 2 I (.slice a1 n1 c1) (.slice a2 V c2) false 0 (.iface 287 (.pointer (some ⟨p,0,none⟩)))) 179 (0,0))∧Q1 false w4 p Y (h0Z false bs) (yz 64 kz)∧(∀g,Y.ownBlock=some g→w.heap.size≤g)∧Below w.heap.size w w4 from⟨by have:=G.out.size;omega,X,h3,fun g hg=>by have:=h4 g hg;have:=G.out.size;omega,G.out.trans (h5.below G.out.size (fun k hk=>by omega))⟩);clear h1 X h3 h4 h5 al G;have an:w.heap.size≤r.heap.size:=by omega
 go_wp2
 go_ret
 obtain⟨h1,X,h3,h4,h5⟩:=HF.out;exact⟨_,p,Y,_,_,rfl,an,h1,X,h3,h4,h5⟩
def yX (k:Int)(bv kv:Value)(la:Bool)(o:Int)(dv:Value):Array Value:= #[.int .i64 k,bv,kv,.bool la,.int .i64 o,dv]
def YC (bs kz:List Int):Bool:=decide (kz.length≠0∧(kz.length:Int)≠qp bs 1)
theorem qat (o kz:List Int):YC o kz=(((kz.length:Int) != 0)&&((kz.length:Int) != qp o 1)):=by
 unfold YC;rw[Bool.eq_iff_iff];simp only[decide_eq_true_eq,Bool.and_eq_true,bne_iff_ne,ne_eq];omega
theorem qdT {big:Bool}{o kz:List Int}(h:okD big false o)(q:YC o kz=false):kz.length≤mB big:=by
 unfold YC at q;have r:=of_decide_eq_false q;have D:0≤qp o 1∧qp o 1≤(mB big:Nat):=h.2.2.2.2.1;omega
def Jm (big:Bool)(bs kz:List Int)(la:Bool)(o:Int)(ds:List Int):List Int:=(zU big (h0Z big bs) (yz (bB big) kz++ds) la).take o.toNat
def qck (big:Bool)(bs kz:List Int)(la:Bool)(o:Int)(ds:List Int)(w:World)(e:Ending)(w':World):Prop:=
 (∃v,e= .returned (.tuple #[v,.int .i64 0])∧Fresh w.heap.size w' v (Jm big bs kz la o ds))∧Below w.heap.size w w'
theorem qgU {big:Bool}{w w':World}{p q:Nat}{J:Value}{I r:List Int}{c:Array Value}{T:TypeId}{fr:Nat×Nat}(h:Q1 big w p J I r)(G:But q w w')(D:w.heap[q]? =some (.cells c T fr))(O:T≠283)(S:T≠291)(U:T≠5):Q1 big w' p J I r:=by
 refine⟨?_,Yy h.2 G D U⟩;rw[G.block p (Ai h.1).1 ?_];exact h.1;rintro rfl
 have o:=h.1;rw[D]at o;simp only[Option.some.injEq,Obj.cells.injEq]at o
 cases big
 ·exact S o.2.1
 ·exact O o.2.1
theorem qa5 {big:Bool}{w:World}{p q:Nat}{o:Value}{D r:List Int}{c:Array Value}{T:TypeId}{fr:Nat×Nat}(h:Q1 big w p o D r)(G:w.heap[q]? =some (.cells c T fr))(I:T≠5):o.ownBlock≠some q:=fun e=>qdM h.2 G I e.symm
theorem qhN (I kz ds:List Int)(la:Bool)(o:Int)(X kv S:Value)(w:World)(hB:Hold w X I)(hK:Hold w kv kz)(hD:Hold w S ds)(aM:(ds.length:Int)≤140737488355200)(aV:okD true false I)(aj:YC I kz=false)(ho:1≤o∧o≤64):
  Calls Tryz.prog 60 #[.agg (yX 1 X kv la o S)] w fun e w'=>qck true I kz la o ds w e w':=by
 obtain⟨r,O⟩:=Ex w.heap.size;obtain⟨ka,kc,rfl,bi,bg⟩:=hK.slice;have an:Below r w (w.alloc (.cells #[.int .i64 1,X,.slice ka kz.length kc,.bool la,.int .i64 o,S] 73)):=by rw[←O];exact Br.alloc Nl _
 have ad:=Wn w (.cells #[.int .i64 1,X,.slice ka kz.length kc,.bool la,.int .i64 o,S] 73);rw[O]at ad;have af:=hB.below (O▸an);have HB:=hid hB;have HK:=hid hK;have HD:=hid hD;have aD:=hid aM;have au:=hid aV;have bb:=hid aj;have HO:=hid ho;clear hB hK hD aM bi bg aV aj ho;show Calls _ _ #[.agg #[.int .i64 1,X,.slice ka kz.length kc,.bool la,.int .i64 o,S]] _ _
 go_enter Tryz.func60,Tryz.ntmps60
 go_wp2_with fail
 generalize w.alloc (.cells #[.int .i64 1,X,.slice ka kz.length kc,.bool la,.int .i64 o,S] 73)=wA at*;refine(qdc true I X wA af.holds8 af.1 (fun a n c e=>by obtain⟨a',c',e',h1,h2⟩:=af.slice;rw[e']at e;simp only[Value.slice.injEq]at e;obtain⟨-,rfl,rfl⟩:=e;exact⟨h1,h2⟩) au.out).mono ?_;rintro e w1 ⟨⟨fo,dp,lf,aG,nd,aP,sa,pe,rfl,bI,bk⟩,ae⟩;obtain⟨ky,ah⟩:=Ex (qp I 1);obtain⟨dg,a5⟩:=Ex (qp I 0);rw[ah,a5];unfold parV;have aR:=qf ad ae;have bp:=ae.size;have bh:r<wA.heap.size:=(Ai ad).1;have aW:Below r w w1:=an.trans (ae.mono (by omega));have aZ:=hid aR;have aL:=hid aW;clear aR aW ae an ad af;go_upto_if 24 with((with_reducible show wpList _ _ _ (Oper.mk none (Op.store 171 _ _) _ _ _ _::_) _ _);refine wpList_store_row rfl 171 _ _ rfl w1.heap.size #[.int .i64 dg,.int .i64 ky,.int .i64 fo,.int .i64 dp,.int .u32 lf,.int .u64 aG,.int .u32 0,.int .i64 nd,.int .i64 aP,sa,pe] rfl rfl 171 _ (Wn _ _) (by kernel_rfl) rfl (by simp only[List.all_toArray,List.all_cons,List.all_nil,bI,bk];rfl) ?_)
 refine qm ?_;intro W hW;obtain⟨p4,am⟩:=Ex w1.heap.size;have ac:W.heap[p4]? =some (.cells #[.int .i64 dg,.int .i64 ky,.int .i64 fo,.int .i64 dp,.int .u32 lf,.int .u64 aG,.int .u32 0,.int .i64 nd,.int .i64 aP,sa,pe] 171 (0,0)):=by rw[hW,←am];exact setRow_heap _ _ _ _ _ _ (Wn _ _)
 have Y:W.heap[r]? =some (.cells #[.int .i64 1,X,.slice ka kz.length kc,.bool la,.int .i64 o,S] 73 (0,0)):=by rw[hW];exact(setRow_other (w1.alloc _) _ _ _ (by omega)).trans ((Bh _ _ _ (by omega)).trans aZ.out)
 have ap:Below r w W:=by rw[hW];exact below_setRow (aL.out.alloc (by omega) _) (by omega) _
 rw[am];have bM:r<p4:=by omega
 clear hW am aZ aL bp bh;have bj:p4<W.heap.size:=(Ai ac).1;have bE:=HB.out.below (O▸ap);have aN:=hid Y;have ab:=hid ap;have bK:W.cell? ⟨p4,0,none⟩=some (.int .i64 dg):=qd ac 0;have bl:W.cell? ⟨p4,1,none⟩=some (.int .i64 ky):=qd ac 1;have bt:W.cell? ⟨r,0,none⟩=some (.int .i64 1):=qd Y 0;have bo:W.cell? ⟨r,1,none⟩=some X:=qd Y 1;have bq:W.cell? ⟨r,2,none⟩=some (.slice ka kz.length kc):=qd Y 2;have bf:r<W.heap.size:=(Ai Y).1;obtain⟨q0,a8⟩: ∃q,((kz.length:Int) != 0)=q:=⟨_,rfl⟩;obtain⟨q1,a9⟩: ∃q,((kz.length:Int) != ky)=q:=⟨_,rfl⟩;have aJ:(q0&&q1)=false:=by rw[←a8,←a9,←ah];exact(qat I kz).symm.trans bb.out
 have bw:kz.length≤64:=qdT au.out bb.out;clear ac Y ap ah a5 bE;go_upto_region 8 with(fail)
 go_cut [46] from 7 (fun u W'=>u= .bool false∧W=W')
 case first=>
  cases q0<;>cases q1<;>first|(exfalso;cases aJ;done)|skip
  all_goals
   go_wp2
   go_meet
   case rel=>exact⟨rfl,by trivial⟩
 case rest=>
  clear a8 a9 bl aJ;obtain⟨rfl,rfl⟩:=hcut;have aK:=qhw I kz dg X (.slice ka kz.length kc) W (HB.out.below (O▸ab.out)) (HK.out.below (O▸ab.out)) au.out.1 bw;have aT:=hid aK;clear aK;go_wp2_with fail
  refine aT.out.mono ?_;rintro e J ⟨G,p,hv,aE,aX,rfl,m1,m2,m3,m4,m5,m6⟩;have av:=qf aN.out m6;have aB:Below r w J:=ab.out.trans (m6.mono (by omega));have bn:=m6.size;have bD:J.cell? ⟨r,3,none⟩=some (.bool la):=qd av 3;have bF:J.cell? ⟨G,4,none⟩=some (.bool false):=qd m3 4;have br:=frozen_of_row J G 4 _ _ m3;have ag:r<J.heap.size:=by omega
  have bd:G<J.heap.size:=(Ai m3).1;have bJ:r<G∧r<p:=by omega
  obtain⟨bN,bL⟩:=bJ;have Z:But G J (J.setCell ⟨G,4,none⟩ (.bool la)):=(But.refl G J).set 4 _;have aA:=jQ (b:=la) m3;have a3:=qgU m4 Z m3 (by decide) (by decide) (by decide);have a7:=(Z.block r ag (by omega)).trans av;have az:Below r w (J.setCell ⟨G,4,none⟩ (.bool la)):=aB.trans (Z.below (by omega) (by omega));have be:p≠G:=fun e=>by have h1:=m4.1;rw[e,m3]at h1;simp only[cond,Option.some.injEq,Obj.cells.injEq]at h1;exact absurd h1.2.1 (by decide)
  have a4: ∀g,hv.ownBlock=some g→r<g:=fun g hg=>by have:=m5 g hg;omega
  have aU:=hid aA;have aw:=hid a3;have aI:=hid a7;have ak:=hid az;have aq:=hid a4;have aQ:(J.setCell ⟨G,4,none⟩ (.bool la)).heap.size=J.heap.size:=by simp[World.setCell]
  rw[←aQ]at bd ag;clear av aB m1 m2 m3 m4 m5 a4 m6 Z aA a3 a7 az bn aQ aN ab aT bt bo bq bf bK bj;go_upto_region 12 with(fail)
  generalize J.setCell ⟨G,4,none⟩ (.bool la)=W4 at*;clear bD bF br J W;refine yl (fun f W=>W.heap[G]? =some (.cells (yr 1 dg aE aX la 0 (.iface 277 (.pointer (some ⟨p,0,none⟩)))) 179 (0,0))∧W.heap[r]? =some (.cells #[.int .i64 1,X,.slice ka kz.length kc,.bool la,.int .i64 o,S] 73 (0,0))∧(f=false→Below W4.heap.size W4 W)∧(f=true→Spare (zZ p hv) W4 W∧ ∃aa,Q1 true W p aa (h0Z true I) (yz 128 kz++ds))) 6 [.z 61 G 0,.z 62 G 0,.z 63 G 6,.v 64 (.iface 277 (.pointer (some ⟨p,0,none⟩))),.z 65 r 5,.v 66 S,.p 67 (fun _ _=>True)] (by exact⟨kW,trivial⟩) ⟨aU.out,aI.out,fun _=>Br.drew,fun h=>(by cases h)⟩ (fun f W W' h hb=>⟨qf h.1 hb,qf h.2.1 hb,fun e=>(h.2.2.1 e).trans (hb.mono (h.2.2.1 e).size),fun e=>by obtain⟨h1,aa,h2⟩:=h.2.2.2 e;exact⟨h1.trans (Spare.of_below _ hb) (fun _ _ h=>h),aa,yT h2 hb⟩⟩) ?_ ?_ ?_
  ·repeat' (with_reducible first|exact qB|refine qw ?_ ?_)
   all_goals try
    refine .inr ?_;intro A x W f hA V hf U D K hK;have a6:=hA.2 6 (by decide);conv at a6=>rhs;whnf
    have a1:=hA.2 1 (by decide);conv at a1=>rhs;whnf
    simp only[Q7,yk]at D;clear U hA;first
    | go_simp
      exact hK _ _ BR rfl
    | have y0:W.cell? ⟨G,6,none⟩=some (.iface 277 (.pointer (some ⟨p,0,none⟩))):=qd V.1 6
      have y1:W.cell? ⟨r,5,none⟩=some S:=qd V.2.1 5;go_simp
      exact hK _ _ BR rfl
   any_goals exact .inl rfl
  ·intro A x W hA V U K hK;have bR:=gw hA U 3 64;have bP:=gw hA U 5 66;clear U hA;have hB:=V.2.2.1 rfl;go_simp
   refine YH (f:=260) (by kernel_rfl) ?_;go_simp
   have bz:Hold W S ds:=HD.out.below (O▸ak.out.trans (hB.mono (by omega)));refine(qbq (h0Z true I) (yz 128 kz) ds (Q0 true I) (zt HK.out.1) p hv S W (yT aw.out hB) bz (fun aF b hb=>⟨fun e=>by have:=YT HD.out aF hb;omega,fun e=>by have:=YT HD.out aF hb;have:=aq.out b e;omega⟩) (by have:=zr (n:=128) (key:=kz) (by omega);have:=aD.out;omega)).mono ?_;rintro e w' ⟨rfl,⟨aa,bC, -⟩,ai⟩
   refine hK _ _ (fun h=>by cases h) ⟨(ai.block G (Ai V.1).1 ⟨fun e=>be e.symm,qa5 (yT aw.out hB) V.1 (by decide)⟩).trans V.1,(ai.block r (Ai V.2.1).1 ⟨by omega,fun e=>by have:=aq.out r e;omega⟩).trans V.2.1,fun h=>(by cases h),fun _=>⟨(Spare.of_below _ hB).trans ai (fun _ _ h=>h),aa,bC⟩⟩ ⟨.inr (fun _ h=>h),.inr (fun _ h=>h),.inr (fun _ h=>h),.inr (fun _ h=>h),.inr (fun _ h=>h),.inr (fun _ h=>h),.inl rfl,trivial⟩ trivial
  intro x W V bc;obtain⟨ba, -⟩:=bc;change ((fun _ _=>True)) (x 67) W at ba
  simp only[QP,Act.put,Ls];obtain⟨aY,ar, -,h9⟩:=V;obtain⟨ax,bx,aC⟩:=h9 rfl;have aO:Below r w W:=ak.out.trans (ax.below (by omega) (fun k hk=>⟨by omega,fun e=>by have:=aq.out k e;omega⟩));have bQ:W.cell? ⟨r,4,none⟩=some (.int .i64 o):=qd ar 4;have bO:r<W.heap.size:=(Ai ar).1;have bu:=hid aY;have bG:=hid aC;have bA:=hid aO;clear aY ar h9 ax aC aO ba aU aw aI ak;go_wp2_with fail
  have ho:=HO.out;obtain⟨m,hm⟩: ∃m:Nat,o=(m:Int):=⟨o.toNat,by omega⟩;have ao:1≤m∧m≤64:=by omega
  clear ho HO;subst hm;have al:(((yz 128 kz)++ds).length:Int)≤281474976710656:=by
   have:=zr (n:=128) (key:=kz) (by omega)
   have:=aD.out
   rw[List.length_append];omega
  have aH: ∀z∈yz 128 kz++ds,0≤z∧z≤255:=fun z hz=>by
   rcases List.mem_append.1 hz with hz|hz
   ·exact zt HK.out.1 z hz
   ·exact HD.out.1 z hz
  refine(qdP (h0Z true I) (yz 128 kz++ds) (Q0 true I) aH G p m dg 0 la aE aX bx _ bu.out bG.out al ao.1 ao.2).mono ?_;rintro e w5 ⟨⟨v5,rfl,aS⟩,ay⟩;have bH:=hid (show Fresh w.heap.size w5 v5 (Jm true I kz la (m:Nat) ds) from by have h:=aS.le (b':=w.heap.size) (by omega);unfold Jm;exact h);have bm:=hid (show Below r w w5 from bA.out.trans (ay.mono (by omega)));clear aS ay al aH ao;go_wp2
  go_ret2
  exact⟨⟨_,rfl,bH.out⟩,by rw[O];exact bm.out⟩
theorem qgu (I kz ds:List Int)(la:Bool)(o:Int)(X kv S:Value)(w:World)(hB:Hold w X I)(hK:Hold w kv kz)(hD:Hold w S ds)(aM:(ds.length:Int)≤140737488355200)(aV:okD false false I)(aj:YC I kz=false)(ho:1≤o∧o≤32):
  Calls Tryz.prog 60 #[.agg (yX 2 X kv la o S)] w fun e w'=>qck false I kz la o ds w e w':=by
 obtain⟨r,O⟩:=Ex w.heap.size;obtain⟨ka,kc,rfl,bi,bg⟩:=hK.slice;have an:Below r w (w.alloc (.cells #[.int .i64 2,X,.slice ka kz.length kc,.bool la,.int .i64 o,S] 73)):=by rw[←O];exact Br.alloc Nl _
 have ad:=Wn w (.cells #[.int .i64 2,X,.slice ka kz.length kc,.bool la,.int .i64 o,S] 73);rw[O]at ad;have af:=hB.below (O▸an);have HB:=hid hB;have HK:=hid hK;have HD:=hid hD;have aD:=hid aM;have au:=hid aV;have bb:=hid aj;have HO:=hid ho;clear hB hK hD aM bi bg aV aj ho;show Calls _ _ #[.agg #[.int .i64 2,X,.slice ka kz.length kc,.bool la,.int .i64 o,S]] _ _
 go_enter Tryz.func60,Tryz.ntmps60
 go_wp2_with fail
 generalize w.alloc (.cells #[.int .i64 2,X,.slice ka kz.length kc,.bool la,.int .i64 o,S] 73)=wA at*;refine(qdc false I X wA af.holds8 af.1 (fun a n c e=>by obtain⟨a',c',e',h1,h2⟩:=af.slice;rw[e']at e;simp only[Value.slice.injEq]at e;obtain⟨-,rfl,rfl⟩:=e;exact⟨h1,h2⟩) au.out).mono ?_;rintro e w1 ⟨⟨fo,dp,lf,aG,nd,aP,sa,pe,rfl,bI,bk⟩,ae⟩;obtain⟨ky,ah⟩:=Ex (qp I 1);obtain⟨dg,a5⟩:=Ex (qp I 0);rw[ah,a5];unfold parV;have aR:=qf ad ae;have bp:=ae.size;have bh:r<wA.heap.size:=(Ai ad).1;have aW:Below r w w1:=an.trans (ae.mono (by omega));have aZ:=hid aR;have aL:=hid aW;clear aR aW ae an ad af;go_upto_if 24 with((with_reducible show wpList _ _ _ (Oper.mk none (Op.store 171 _ _) _ _ _ _::_) _ _);refine wpList_store_row rfl 171 _ _ rfl w1.heap.size #[.int .i64 dg,.int .i64 ky,.int .i64 fo,.int .i64 dp,.int .u32 lf,.int .u64 aG,.int .u32 0,.int .i64 nd,.int .i64 aP,sa,pe] rfl rfl 171 _ (Wn _ _) (by kernel_rfl) rfl (by simp only[List.all_toArray,List.all_cons,List.all_nil,bI,bk];rfl) ?_)
 refine qm ?_;intro W hW;obtain⟨p4,am⟩:=Ex w1.heap.size;have ac:W.heap[p4]? =some (.cells #[.int .i64 dg,.int .i64 ky,.int .i64 fo,.int .i64 dp,.int .u32 lf,.int .u64 aG,.int .u32 0,.int .i64 nd,.int .i64 aP,sa,pe] 171 (0,0)):=by rw[hW,←am];exact setRow_heap _ _ _ _ _ _ (Wn _ _)
 have Y:W.heap[r]? =some (.cells #[.int .i64 2,X,.slice ka kz.length kc,.bool la,.int .i64 o,S] 73 (0,0)):=by rw[hW];exact(setRow_other (w1.alloc _) _ _ _ (by omega)).trans ((Bh _ _ _ (by omega)).trans aZ.out)
 have ap:Below r w W:=by rw[hW];exact below_setRow (aL.out.alloc (by omega) _) (by omega) _
 rw[am];have bM:r<p4:=by omega
 clear hW am aZ aL bp bh;have bj:p4<W.heap.size:=(Ai ac).1;have bE:=HB.out.below (O▸ap);have aN:=hid Y;have ab:=hid ap;have bK:W.cell? ⟨p4,0,none⟩=some (.int .i64 dg):=qd ac 0;have bl:W.cell? ⟨p4,1,none⟩=some (.int .i64 ky):=qd ac 1;have bt:W.cell? ⟨r,0,none⟩=some (.int .i64 2):=qd Y 0;have bo:W.cell? ⟨r,1,none⟩=some X:=qd Y 1;have bq:W.cell? ⟨r,2,none⟩=some (.slice ka kz.length kc):=qd Y 2;have bf:r<W.heap.size:=(Ai Y).1;obtain⟨q0,a8⟩: ∃q,((kz.length:Int) != 0)=q:=⟨_,rfl⟩;obtain⟨q1,a9⟩: ∃q,((kz.length:Int) != ky)=q:=⟨_,rfl⟩;have aJ:(q0&&q1)=false:=by rw[←a8,←a9,←ah];exact(qat I kz).symm.trans bb.out
 have bw:kz.length≤32:=qdT au.out bb.out;clear ac Y ap ah a5 bE;go_upto_region 8 with(fail)
 go_cut [46] from 7 (fun u W'=>u= .bool false∧W=W')
 case first=>
  cases q0<;>cases q1<;>first|(exfalso;cases aJ;done)|skip
  all_goals
   go_wp2
   go_meet
   case rel=>exact⟨rfl,by trivial⟩
 case rest=>
  clear a8 a9 bl aJ;obtain⟨rfl,rfl⟩:=hcut;have aK:=qf6 I kz dg X (.slice ka kz.length kc) W (HB.out.below (O▸ab.out)) (HK.out.below (O▸ab.out)) au.out.1 bw;have aT:=hid aK;clear aK;go_wp2_with fail
  refine aT.out.mono ?_;rintro e J ⟨G,p,hv,aE,aX,rfl,m1,m2,m3,m4,m5,m6⟩;have av:=qf aN.out m6;have aB:Below r w J:=ab.out.trans (m6.mono (by omega));have bn:=m6.size;have bD:J.cell? ⟨r,3,none⟩=some (.bool la):=qd av 3;have bF:J.cell? ⟨G,4,none⟩=some (.bool false):=qd m3 4;have br:=frozen_of_row J G 4 _ _ m3;have ag:r<J.heap.size:=by omega
  have bd:G<J.heap.size:=(Ai m3).1;have bJ:r<G∧r<p:=by omega
  obtain⟨bN,bL⟩:=bJ;have Z:But G J (J.setCell ⟨G,4,none⟩ (.bool la)):=(But.refl G J).set 4 _;have aA:=jQ (b:=la) m3;have a3:=qgU m4 Z m3 (by decide) (by decide) (by decide);have a7:=(Z.block r ag (by omega)).trans av;have az:Below r w (J.setCell ⟨G,4,none⟩ (.bool la)):=aB.trans (Z.below (by omega) (by omega));have be:p≠G:=fun e=>by have h1:=m4.1;rw[e,m3]at h1;simp only[cond,Option.some.injEq,Obj.cells.injEq]at h1;exact absurd h1.2.1 (by decide)
  have a4: ∀g,hv.ownBlock=some g→r<g:=fun g hg=>by have:=m5 g hg;omega
  have aU:=hid aA;have aw:=hid a3;have aI:=hid a7;have ak:=hid az;have aq:=hid a4;have aQ:(J.setCell ⟨G,4,none⟩ (.bool la)).heap.size=J.heap.size:=by simp[World.setCell]
  rw[←aQ]at bd ag;clear av aB m1 m2 m3 m4 m5 a4 m6 Z aA a3 a7 az bn aQ aN ab aT bt bo bq bf bK bj;go_upto_region 12 with(fail)
  generalize J.setCell ⟨G,4,none⟩ (.bool la)=W4 at*;clear bD bF br J W;refine yl (fun f W=>W.heap[G]? =some (.cells (yr 2 dg aE aX la 0 (.iface 287 (.pointer (some ⟨p,0,none⟩)))) 179 (0,0))∧W.heap[r]? =some (.cells #[.int .i64 2,X,.slice ka kz.length kc,.bool la,.int .i64 o,S] 73 (0,0))∧(f=false→Below W4.heap.size W4 W)∧(f=true→Spare (zZ p hv) W4 W∧ ∃aa,Q1 false W p aa (h0Z false I) (yz 64 kz++ds))) 6 [.z 61 G 0,.z 62 G 0,.z 63 G 6,.v 64 (.iface 287 (.pointer (some ⟨p,0,none⟩))),.z 65 r 5,.v 66 S,.p 67 (fun _ _=>True)] (by exact⟨kW,trivial⟩) ⟨aU.out,aI.out,fun _=>Br.drew,fun h=>(by cases h)⟩ (fun f W W' h hb=>⟨qf h.1 hb,qf h.2.1 hb,fun e=>(h.2.2.1 e).trans (hb.mono (h.2.2.1 e).size),fun e=>by obtain⟨h1,aa,h2⟩:=h.2.2.2 e;exact⟨h1.trans (Spare.of_below _ hb) (fun _ _ h=>h),aa,yT h2 hb⟩⟩) ?_ ?_ ?_
  ·repeat' (with_reducible first|exact qB|refine qw ?_ ?_)
   all_goals try
    refine .inr ?_;intro A x W f hA V hf U D K hK;have a6:=hA.2 6 (by decide);conv at a6=>rhs;whnf
    have a1:=hA.2 1 (by decide);conv at a1=>rhs;whnf
    simp only[Q7,yk]at D;clear U hA;first
    | go_simp
      exact hK _ _ BR rfl
    | have y0:W.cell? ⟨G,6,none⟩=some (.iface 287 (.pointer (some ⟨p,0,none⟩))):=qd V.1 6
      have y1:W.cell? ⟨r,5,none⟩=some S:=qd V.2.1 5;go_simp
      exact hK _ _ BR rfl
   any_goals exact .inl rfl
  ·intro A x W hA V U K hK;have bR:=gw hA U 3 64;have bP:=gw hA U 5 66;clear U hA;have hB:=V.2.2.1 rfl;go_simp
   refine YH (f:=266) (by kernel_rfl) ?_;go_simp
   have bz:Hold W S ds:=HD.out.below (O▸ak.out.trans (hB.mono (by omega)));refine(qaL (h0Z false I) (yz 64 kz) ds (Q0 false I) (zt HK.out.1) p hv S W (yT aw.out hB) bz (fun aF b hb=>⟨fun e=>by have:=YT HD.out aF hb;omega,fun e=>by have:=YT HD.out aF hb;have:=aq.out b e;omega⟩) (by have:=zr (n:=64) (key:=kz) (by omega);have:=aD.out;omega)).mono ?_;rintro e w' ⟨rfl,⟨aa,bC, -⟩,ai⟩
   refine hK _ _ (fun h=>by cases h) ⟨(ai.block G (Ai V.1).1 ⟨fun e=>be e.symm,qa5 (yT aw.out hB) V.1 (by decide)⟩).trans V.1,(ai.block r (Ai V.2.1).1 ⟨by omega,fun e=>by have:=aq.out r e;omega⟩).trans V.2.1,fun h=>(by cases h),fun _=>⟨(Spare.of_below _ hB).trans ai (fun _ _ h=>h),aa,bC⟩⟩ ⟨.inr (fun _ h=>h),.inr (fun _ h=>h),.inr (fun _ h=>h),.inr (fun _ h=>h),.inr (fun _ h=>h),.inr (fun _ h=>h),.inl rfl,trivial⟩ trivial
  intro x W V bc;obtain⟨ba, -⟩:=bc;change ((fun _ _=>True)) (x 67) W at ba
  simp only[QP,Act.put,Ls];obtain⟨aY,ar, -,h9⟩:=V;obtain⟨ax,bx,aC⟩:=h9 rfl;have aO:Below r w W:=ak.out.trans (ax.below (by omega) (fun k hk=>⟨by omega,fun e=>by have:=aq.out k e;omega⟩));have bQ:W.cell? ⟨r,4,none⟩=some (.int .i64 o):=qd ar 4;have bO:r<W.heap.size:=(Ai ar).1;have bu:=hid aY;have bG:=hid aC;have bA:=hid aO;clear aY ar h9 ax aC aO ba aU aw aI ak;go_wp2_with fail
  have ho:=HO.out;obtain⟨m,hm⟩: ∃m:Nat,o=(m:Int):=⟨o.toNat,by omega⟩;have ao:1≤m∧m≤32:=by omega
  clear ho HO;subst hm;have al:(((yz 64 kz)++ds).length:Int)≤281474976710656:=by
   have:=zr (n:=64) (key:=kz) (by omega)
   have:=aD.out
   rw[List.length_append];omega
  have aH: ∀z∈yz 64 kz++ds,0≤z∧z≤255:=fun z hz=>by
   rcases List.mem_append.1 hz with hz|hz
   ·exact zt HK.out.1 z hz
   ·exact HD.out.1 z hz
  refine(qcC (h0Z false I) (yz 64 kz++ds) (Q0 false I) aH G p m dg 0 la aE aX bx _ bu.out bG.out al ao.1 ao.2).mono ?_;rintro e w5 ⟨⟨v5,rfl,aS⟩,ay⟩;have bH:=hid (show Fresh w.heap.size w5 v5 (Jm false I kz la (m:Nat) ds) from by have h:=aS.le (b':=w.heap.size) (by omega);unfold Jm;exact h);have bm:=hid (show Below r w w5 from bA.out.trans (ay.mono (by omega)));clear aS ay al aH ao;go_wp2
  go_ret2
  exact⟨⟨_,rfl,bH.out⟩,by rw[O];exact bm.out⟩
def DecIs (big:Bool)(bs:List Int)(base:Nat)(w':World)(cs:Array Value):Prop:=
 cs.size=11∧cs.all (·.oneCell')=true∧ ∃sa pe,Value.agg cs=parN (YL big false bs) sa pe∧w'.ownsRow base 5 1 sa (Y3 big bs).length ((Y3 big bs).map qo)∧w'.ownsRow base 5 1 pe (zp big bs).length ((zp big bs).map qo)
def qdk (big:Bool)(bs:List Int)(w:World)(e:Ending)(w':World):Prop:=
 (∃cs,e= .returned (.tuple #[.agg cs,.int .i64 0])∧DecIs big bs w.heap.size w' cs)∧Below w.heap.size w w'
theorem qiT {big:Bool}{o:List Int}{base:Nat}{w':World}{G r:Value}(q:w'.ownsRow base 5 1 G (Y3 big o).length ((Y3 big o).map qo))(D:w'.ownsRow base 5 1 r (zp big o).length ((zp big o).map qo)):
  ∃cs,parN (YL big false o) G r= .agg cs∧DecIs big o base w' cs:=by
 obtain⟨a1,I,c1,rfl⟩:=qs q;obtain⟨a2,J,c2,rfl⟩:=qs D;refine⟨_,rfl,rfl,?_,_,_,rfl,q,D⟩;simp[Value.oneCell']
theorem DecIs.mono {big:Bool}{r:List Int}{base b':Nat}{w w':World}{cs:Array Value}(h:DecIs big r base w cs)(o:b'≤base)(q: ∀g,base≤g→g<w.heap.size→w'.heap[g]? =w.heap[g]?):DecIs big r b' w' cs:=by
 obtain⟨D,O,J,S,e,G,I⟩:=h;exact⟨D,O,J,S,e,ownsRow_le (qi G q) o,ownsRow_le (qi I q) o⟩
theorem Qg {W:World}{base n b:Nat}{v:Value}{xs:List Value}{c cs:Array Value}{T:TypeId}(h:W.ownsRow base 5 1 v n xs)(D:W.heap[b]? =some (.cells c T (0,0)))(J:T≠5):(W.setRow b cs).ownsRow base 5 1 v n xs:=by
 refine⟨h.1,?_⟩;rcases h.2 with o|⟨g,r,q,e,G,o,I⟩
 ·exact .inl o
 ·refine .inr ⟨g,r,q,e,G,?_,I⟩;rw[setRow_other _ _ _ _ ?_];exact o;rintro rfl
  rw[D]at o;simp only[Option.some.injEq,Obj.cells.injEq]at o;exact J o.2.1
theorem qhH {big:Bool}{D:List Int}{o b':Nat}{W:World}{cs c ds:Array Value}(h:DecIs big D o W cs)(q:W.heap[o]? =some (.cells c 171 (0,0)))(r:b'≤o):DecIs big D b' (W.setRow o ds) cs:=by
 obtain⟨G,S,O,U,e,I,J⟩:=h;exact⟨G,S,O,U,e,ownsRow_le (Qg I q (by decide)) r,ownsRow_le (Qg J q (by decide)) r⟩
theorem qcy (big:Bool)(V:List Int)(bv:Value)(w:World)(hB:Hold w bv V)(ac:okD big false V):
  Calls Tryz.prog 120 #[.int .i64 (kB big),bv] w fun e w'=>qdk big V w e w':=by
 obtain⟨q,D⟩:=Ex w.heap.size;have J:Below q w (w.alloc (.cells Kb 171)):=by rw[←D];exact Br.alloc Nl _
 have I:=Wn w (.cells Kb 171);rw[D]at I;have HB:=hid hB;have ak:=hid ac;clear hB ac;go_enter Tryz.func120,Tryz.ntmps120
 go_wp2_with fail
 generalize w.alloc (.cells Kb 171)=wA at*;refine(qdF big V bv wA (HB.out.below (D▸J)) ak.out).mono ?_;rintro e w1 ⟨⟨sa,pe,rfl,o1,o2⟩,G⟩;obtain⟨cs,ag,aa⟩:=qiT o1 o2;rw[ag];have ah:q<wA.heap.size:=(Ai I).1;have ai:=G.size;have Z:=qf I G;have ad:Below q w w1:=J.trans (G.mono (by omega));have U:=aa.mono (b':=q) (w':=w1) (by omega) (fun _ _ _=>rfl);have Y:=hid Z;have ae:=hid ad;have o:=hid U;clear o1 o2 ag G aa Z ad J I U;go_upto_region 2 with((with_reducible show wpList _ _ _ (Oper.mk none (Op.store 171 (Operand.tmp 6) _) _ _ _ _::_) _ _);refine wpList_store_row rfl 171 _ _ rfl w1.heap.size cs rfl rfl 171 _ (Wn _ _) (by rw[o.out.1];kernel_rfl) (by rw[o.out.1];rfl) o.out.2.1 ?_)
 refine qm ?_;intro W O;obtain⟨X,S⟩:=Ex w1.heap.size;have r6:W.heap[X]? =some (.cells cs 171 (0,0)):=by rw[O,←S];exact setRow_heap _ _ _ _ _ _ (Wn _ _)
 have r0:W.heap[q]? =some (.cells Kb 171 (0,0)):=by rw[O];exact(setRow_other (w1.alloc _) _ _ _ (by omega)).trans ((Bh _ _ _ (by omega)).trans Y.out)
 have ab:Below q w W:=by rw[O];exact below_setRow (ae.out.alloc (by omega) _) (by omega) _
 have af:DecIs big V q W cs:=o.out.mono Nl (fun g hg aj=>by rw[O];exact(setRow_other (w1.alloc _) _ _ _ (by omega)).trans (Bh _ _ _ aj));rw[S];have am:q<X:=by omega
 have an:X<W.heap.size:=(Ai r6).1;clear O S Y ae o ai ah;have R6:=hid r6;have R0:=hid r0;have al:=hid ab;have r:=hid af;clear r6 r0 ab af;go_wp2_with (first|((with_reducible show wpList _ _ _ (Oper.mk (some 22) _ _ _ _ _::_) _ _);refine wpList_load_row rfl 171 _ rfl X rfl _ _ _ _ R6.out Tryz.underlying171 rfl (by rw[r.out.1];kernel_rfl) ?_)|((with_reducible show wpList _ _ _ (Oper.mk none (Op.store 171 (Operand.tmp 4) _) _ _ _ _::_) _ _);refine wpList_store_row rfl 171 _ _ rfl q cs rfl rfl 171 _ R0.out (by rw[r.out.1];kernel_rfl) (by rw[r.out.1];rfl) r.out.2.1 ?_))
 exact Bp (qH rfl _ _ q 171 _ _ _ rfl (setRow_heap _ _ _ _ _ _ R0.out) Tryz.underlying171 rfl (by rw[r.out.1];kernel_rfl)) rfl (show qdk _ _ _ _ _ from⟨⟨cs,rfl,qhH r.out R0.out (by omega)⟩,by rw[D];exact below_setRow al.out Nl _⟩)
def TreeV.vN (t:TreeV)(row at_:Nat)(f:Nat):Nat:=
 if f=1 then t.d.toNat else if f=2 then t.kl else if f=3 then t.f.toNat else if f=4 then t.p.toNat else if f=5 then t.l.toNat else if f=6 then at_ else if f=8 then row else if f=9 then t.i.toNat else 0
def TreeV.big (t:TreeV):Bool:=decide (t.k=1)
theorem Yr {t:TreeV}(h:t.validE=0):kB t.big=t.k:=by
 have:=(qn h).1
 unfold TreeV.big kB;rcases this with e|e<;>rw[e]<;>rfl
theorem yx {t:TreeV}(h:t.validE=0):((mB t.big:Nat):Int)=Zb t.k∧((sB t.big:Nat):Int)=Jf t.k:=by
 have:=(qn h).1
 unfold TreeV.big mB sB Zb Jf;rcases this with e|e<;>rw[e]<;>exact⟨rfl,rfl⟩
theorem jC {t:TreeV}(h:t.validE=0)(O:0≤t.l∧t.l≤4294967295){row at_:Nat}(q:row≤255)(r:at_<281474976710656):ParOk t.big (t.vN row at_):=by
 obtain⟨D,S,X,Y,U,V,Z,G,J,o, -, -⟩:=qn h;obtain⟨I, -⟩:=yx h;refine⟨⟨?_,?_,?_,?_,⟨?_,fun _=>?_⟩,?_,?_⟩,?_,?_,rfl⟩;all_goals simp only[TreeV.vN,if_true,if_false,Nat.reduceEqDiff]
 all_goals omega
def TreeV.blk (t:TreeV)(z1 z2:List Int)(row at_:Nat):List Int:=QT t.big (t.vN row at_) z1 z2
theorem TreeV.parN {t:TreeV}(h:t.validE=0)(O:0≤t.l∧t.l≤4294967295)(row at_:Nat)(q o:Value):
  parN (t.vN row at_) q o= .agg #[.int .i64 t.d,.int .i64 (t.kl:Nat),.int .i64 t.f,.int .i64 t.p,.int .u32 t.l,.int .u64 at_,.int .u32 0,.int .i64 row,.int .i64 t.i,q,o]:=by
 obtain⟨G,S,X,Y,U,V,Z,I,J,D, -, -⟩:=qn h;have e: ∀z:Int,0≤z→((z.toNat:Nat):Int)=z:=fun z r=>Int.toNat_of_nonneg r
 unfold Go.Proofs.YthjoojnlnlmljaaGreat.parN parV;simp only[TreeV.vN,if_true,if_false,Nat.reduceEqDiff];rw[e t.d (by omega),e t.f (by omega),e t.p (by omega),e t.l (by omega),e t.i (by omega)];rfl
theorem Qk {W:World}{B n g:Nat}{v:Value}{xs:List Value}{c:Array Value}{T:TypeId}{fr:Nat×Nat}(h:W.ownsRow B 5 1 v n xs)(G:W.heap[g]? =some (.cells c T fr))(o:Nat)(u:Value)(S:T≠5):(W.setCell ⟨g,o,none⟩ u).ownsRow B 5 1 v n xs:=by
 refine⟨h.1,?_⟩;rcases h.2 with q|⟨O,D,r,e,I,q,J⟩
 ·exact .inl q
 ·refine .inr ⟨O,D,r,e,I,?_,J⟩;rw[heap_setCell_other W _ _ _ ?_];exact q;rintro rfl
  rw[G]at q;simp only[Option.some.injEq,Obj.cells.injEq]at q;exact S q.2.1
def TreeV.outN (t:TreeV)(rt:Bool):Int:=if rt then t.d else t.i
def Y6 (row:Nat)(kz:List Int):List Int:=if row=0 then kz else []
theorem qed (t:TreeV)(h:t.validE=0)(hl:0≤t.l∧t.l≤4294967295)(z1 z2 kz:List Int)(row at_:Nat)(hr:row≤255)(ha:at_<281474976710656)(la rt:Bool)(da:Option Addr)(dn dc:Nat)(w:World)
  (h1:Hold w (.slice t.sa t.sl t.sc) z1) (h2:Hold w (.slice t.pa t.pl t.pc) z2) (hk:Hold w (.slice t.ka t.kl t.kc) kz):
  Calls Tryz.prog 61 #[t.val,.int .i64 row,.int .u64 at_,.bool la,.bool rt,.slice da dn dc] w fun e w'=> ∃bv kv,e= .returned (.agg (yX t.k bv kv la (t.outN rt) (.slice da dn dc)))∧
   w'.ownsRow w.heap.size 5 1 bv (mB t.big) ((t.blk z1 z2 row at_).map qo)∧w'.ownsRow w.heap.size 5 1 kv (Y6 row kz).length ((Y6 row kz).map qo)∧Below w.heap.size w w':=by
 obtain⟨o,G⟩:=Ex w.heap.size;have ax:z1.length=t.sl:=by obtain⟨a,c,e, -, -⟩:=h1.slice;simp only[Value.slice.injEq]at e;exact e.2.1.symm
 have aw:z2.length=t.pl:=by obtain⟨a,c,e, -, -⟩:=h2.slice;simp only[Value.slice.injEq]at e;exact e.2.1.symm
 have aN:kz.length=t.kl:=by obtain⟨a,c,e, -, -⟩:=hk.slice;simp only[Value.slice.injEq]at e;exact e.2.1.symm
 have aS:=qn h;have a8:=yx h;have bd:kz.length≤64:=by
  have h1:=aS.2.2.2.2.2.2.2.2.2.1;have h2:mB t.big≤64:=by cases t.big<;>decide
  omega
 have aI:=hid (fun(W:World) (hb:Below o w W)=>qdb t.big (t.vN row at_) z1 z2 (.slice t.sa t.sl t.sc) (.slice t.pa t.pl t.pc) W (jC h hl hr ha) (h1.below (G▸hb)) (h2.below (G▸hb)) (by omega) (by omega));rw[TreeV.parN h hl,Yr h]at aI;have HK:=hid hk;have bg:=hid aN;have HB:=hid (show t.blk z1 z2 row at_=QT t.big (t.vN row at_) z1 z2 from rfl);generalize t.blk z1 z2 row at_=BL at*;obtain⟨k,d,f,p,l,i,ka,kl,kc,sa,sl,sc,pa,pl,pc⟩:=t;unfold TreeV.val;simp only at*
 clear aS a8 h hl h1 h2 hk ax aw aN;go_enter Tryz.func61,Tryz.ntmps61
 go_upto_region 1 with(fail)
 have r:((w.alloc (.cells #[.int .i64 k,.int .i64 d,.int .i64 f,.int .i64 p,.int .u32 l,.int .i64 i,.slice ka kl kc,.slice sa sl sc,.slice pa pl pc] 26)).alloc (.cells Ke 73)).heap[o]? =some (.cells #[.int .i64 k,.int .i64 d,.int .i64 f,.int .i64 p,.int .u32 l,.int .i64 i,.slice ka kl kc,.slice sa sl sc,.slice pa pl pc] 26 (0,0)):=(Bh _ _ _ (by simp;omega)).trans (qe _ _ G.symm);have ak:((w.alloc (.cells #[.int .i64 k,.int .i64 d,.int .i64 f,.int .i64 p,.int .u32 l,.int .i64 i,.slice ka kl kc,.slice sa sl sc,.slice pa pl pc] 26)).alloc (.cells Ke 73)).heap[o+1]? =some (.cells Ke 73 (0,0)):=qe _ _ (by simp;omega);have aQ:Below o w ((w.alloc (.cells #[.int .i64 k,.int .i64 d,.int .i64 f,.int .i64 p,.int .u32 l,.int .i64 i,.slice ka kl kc,.slice sa sl sc,.slice pa pl pc] 26)).alloc (.cells Ke 73)):=by rw[←G];exact(Br.alloc Nl _).alloc (by simp) _
 have aJ:((w.alloc (.cells #[.int .i64 k,.int .i64 d,.int .i64 f,.int .i64 p,.int .u32 l,.int .i64 i,.slice ka kl kc,.slice sa sl sc,.slice pa pl pc] 26)).alloc (.cells Ke 73)).heap.size=o+2:=by simp;omega
 generalize ((w.alloc (.cells #[.int .i64 k,.int .i64 d,.int .i64 f,.int .i64 p,.int .u32 l,.int .i64 i,.slice ka kl kc,.slice sa sl sc,.slice pa pl pc] 26)).alloc (.cells Ke 73))=Z at*;have c0:Z.cell? ⟨o,0,none⟩=some (.int .i64 k):=qd r 0;have c1:Z.cell? ⟨o,1,none⟩=some (.int .i64 d):=qd r 1;have c2:Z.cell? ⟨o,2,none⟩=some (.int .i64 f):=qd r 2;have c3:Z.cell? ⟨o,3,none⟩=some (.int .i64 p):=qd r 3;have c4:Z.cell? ⟨o,4,none⟩=some (.int .u32 l):=qd r 4;have c5:Z.cell? ⟨o,5,none⟩=some (.int .i64 i):=qd r 5;have c6:Z.cell? ⟨o,6,none⟩=some (.slice ka kl kc):=qd r 6;have c7:Z.cell? ⟨o,7,none⟩=some (.slice sa sl sc):=qd r 7;have c8:Z.cell? ⟨o,8,none⟩=some (.slice pa pl pc):=qd r 8;have aV:o<Z.heap.size:=by omega
 have ab:=hid r;have ag:=hid ak;have aO:=hid aQ;clear r ak aQ;go_upto_region 2 with(first|((with_reducible show wpList _ _ _ (Oper.mk none (Op.store 171 _ _) _ _ _ _::_) _ _);refine wpList_store_row rfl 171 _ _ rfl Z.heap.size #[.int .i64 d,.int .i64 kl,.int .i64 f,.int .i64 p,.int .u32 l,.int .u64 at_,.int .u32 0,.int .i64 row,.int .i64 i,.slice sa sl sc,.slice pa pl pc] rfl rfl 171 _ (Wn _ _) (by kernel_rfl) rfl (by simp[Value.oneCell']) ?_))
 refine qm ?_;intro W hW;obtain⟨b2,ao⟩:=Ex (o+2);have az:W.heap[b2]? =some (.cells #[.int .i64 d,.int .i64 kl,.int .i64 f,.int .i64 p,.int .u32 l,.int .u64 at_,.int .u32 0,.int .i64 row,.int .i64 i,.slice sa sl sc,.slice pa pl pc] 171 (0,0)):=by rw[hW,←ao,←aJ];exact Wn _ _
 have an:Below b2 Z W:=by rw[hW,←ao,←aJ];exact Br.alloc Nl _
 rw[ao];have aD:Below o w W:=aO.out.trans (an.mono (by omega));have r:W.heap[o]? =some (.cells #[.int .i64 k,.int .i64 d,.int .i64 f,.int .i64 p,.int .u32 l,.int .i64 i,.slice ka kl kc,.slice sa sl sc,.slice pa pl pc] 26 (0,0)):=(an.block o (by omega)).trans ab.out;have ak:W.heap[o+1]? =some (.cells Ke 73 (0,0)):=(an.block (o+1) (by omega)).trans ag.out;have c0:W.cell? ⟨o,0,none⟩=some (.int .i64 k):=qd r 0;have aT:b2<W.heap.size:=(Ai az).1;have aX:o<W.heap.size:=by omega
 clear hW an aO ab ag aJ aV;go_wp2_with (refine L171 b2 rfl az ?_)
 refine(aI.out W aD).mono ?_;rintro e w2 ⟨⟨bv,rfl,aC⟩,aj⟩;obtain⟨a5,n5,k5,rfl⟩:=qs aC;have ab:=hid (qf r aj);have ag:=hid (qf ak aj);have a4:=aj.size;have al:=ownsRow_le aC (show o≤W.heap.size by omega);rw[←HB.out]at al;have aP:=hid al;have aM:=hid (show Below o w w2 from aD.trans (aj.mono (by omega)));have c0:w2.cell? ⟨o,0,none⟩=some (.int .i64 k):=qd ab.out 0;have c5:w2.cell? ⟨o,5,none⟩=some (.int .i64 i):=qd ab.out 5;have aU:o+1<w2.heap.size∧o<w2.heap.size:=by omega
 clear r ak aD aj aC al az aI ao aT aX a4;go_upto_region 4 with(fail)
 refine qm ?_;intro V hV;obtain⟨q,am⟩:=Ex w2.heap.size;have aE:V.heap[q]? =some (.cells #[.int .i64 k,.slice a5 n5 k5,.slice none 0 0,.bool la,.int .i64 i,.slice da dn dc] 73 (0,0)):=by rw[hV,←am];exact Wn _ _
 have ai:Below q w2 V:=by rw[hV,←am];exact Br.alloc Nl _
 rw[am];have aB:V.heap[o]? =_:=(ai.block o (by omega)).trans ab.out;have aF:V.heap[o+1]? =_:=(ai.block (o+1) (by omega)).trans ag.out;have D:=hid aE;have af:=hid aB;have J:=hid aF;have bf:=(Ai aE).1;have ah:=hid (show Below o w V from aM.out.trans (ai.mono (by omega)));have ae:=hid (qi aP.out (fun g _ g2=>ai.block g (by omega)));have be:o+1<q∧o<V.heap.size∧o+1<V.heap.size:=by omega
 clear hV am ai ab ag aM aP c0 c5 aU aB aF aE;by_cases ar:row=0
 case neg=>
  have hq: ¬((row:Int)=0):=by omega
  have aA:Y6 row kz=[]:=if_neg ar
  cases rt
  case false=>
   go_wp2_with (first|(refine L73 q rfl D.out ?_)|((with_reducible show wpList _ _ _ (Oper.mk none (Op.store 73 _ _) _ _ _ _::_) _ _);refine wpList_store_row rfl 73 _ _ rfl (o+1) #[.int .i64 k,.slice a5 n5 k5,.slice none 0 0,.bool la,.int .i64 i,.slice da dn dc] rfl rfl 73 _ J.out (by kernel_rfl) rfl (by simp[Value.oneCell']) ?_))
   exact Bp (results_cell_row rfl _ _ _ _ _ _ _ rfl (setRow_heap _ _ _ _ _ _ J.out) Tryz.underlying73 rfl (by kernel_rfl)) rfl (by rw[G];exact⟨_,_,rfl,Qg ae.out J.out (by decide),(by first|exact Wo _ _ _ _|(rw[aA];exact Wo _ _ _ _)),below_setRow ah.out (by omega) _⟩)
  case true=>
   have c1:V.cell? ⟨o,1,none⟩=some (.int .i64 d):=qd af.out 1;have c4:V.cell? ⟨q,4,none⟩=some (.int .i64 i):=qd D.out 4;have f4:=frozen_of_row V q 4 _ _ D.out;go_upto_region 8 with(fail)
   have ap:=hid (heap_setCell_same V q 4 _ _ (.int .i64 d) D.out);have Y:=hid ((heap_setCell_other V ⟨q,4,none⟩ (o+1) (.int .i64 d) (show o+1≠q by omega)).trans J.out);have au:=hid (Qk ae.out D.out 4 (.int .i64 d) (by decide));have aq:=hid (show Below o w (V.setCell ⟨q,4,none⟩ (.int .i64 d)) from ah.out.setCell (show o≤q by omega) _);clear c1 c4 f4;generalize V.setCell ⟨q,4,none⟩ (.int .i64 d)=V6 at*;go_wp2_with (first|(refine L73 q rfl ap.out ?_)|((with_reducible show wpList _ _ _ (Oper.mk none (Op.store 73 _ _) _ _ _ _::_) _ _);refine wpList_store_row rfl 73 _ _ rfl (o+1) #[.int .i64 k,.slice a5 n5 k5,.slice none 0 0,.bool la,.int .i64 d,.slice da dn dc] rfl rfl 73 _ Y.out (by kernel_rfl) rfl (by simp[Value.oneCell']) ?_))
   exact Bp (results_cell_row rfl _ _ _ _ _ _ _ rfl (setRow_heap _ _ _ _ _ _ Y.out) Tryz.underlying73 rfl (by kernel_rfl)) rfl (by rw[G];exact⟨_,_,rfl,Qg au.out Y.out (by decide),(by first|exact Wo _ _ _ _|(rw[aA];exact Wo _ _ _ _)),below_setRow aq.out (by omega) _⟩)
 subst ar;have aA:Y6 0 kz=kz:=rfl;obtain⟨i0,hi,aY,ax,aw⟩:=info_parts Ql;have c6:V.cell? ⟨o,6,none⟩=some (.slice ka kl kc):=qd af.out 6;have a7:=hid (HK.out.below (G▸ah.out)).src;have c2:V.cell? ⟨q,2,none⟩=some (.slice none 0 0):=qd D.out 2;have f2:=frozen_of_row V q 2 _ _ D.out;go_upto_region 6 with(first|(at_builtin;refine qU rfl _ _ _ rfl V V.heap.size rfl (by repeat(first|exact Below.refl _ _|refine Below.drew ?_)) 5 i0 (.int .u8 0) 1 Tryz.underlying24 hi aY ax aw rfl _ 0 [] rfl (Wo _ _ _ _) _ _ _ rfl (a7.out) (by unfold maxLen;omega) (by omega) ?_;intro v' w' ac aG;obtain⟨U,O,X,rfl⟩:=qs ac;have ad:=qf D.out aG;have aZ:w'.cell? ⟨q,2,none⟩=some (.slice none 0 0):=qd ad 2;have a3:=frozen_of_row w' q 2 _ _ ad;have bb:q<w'.heap.size:=(Ai ad).1;have aH:=hid ac;have I:=hid aG;clear ad ac aG))
 have aR:=(show Below o w w' from ah.out.trans (I.out.mono (by omega)));have aL:Below o w (w'.setCell ⟨q,2,none⟩ (.slice U O X)):=aR.setCell (show o≤q by omega) _;have S:=hid (heap_setCell_same w' q 2 _ _ (.slice U O X) (qf D.out I.out));have aa:=hid ((heap_setCell_other w' ⟨q,2,none⟩ (o+1) (.slice U O X) (show o+1≠q by omega)).trans (qf J.out I.out));have aW:=hid ((heap_setCell_other w' ⟨q,2,none⟩ o (.slice U O X) (show o≠q by omega)).trans (qf af.out I.out));have av:=hid (Qk (qi ae.out (fun g _ g2=>I.out.block g g2)) (qf D.out I.out) 2 (.slice U O X) (by decide));have aK:=hid (Qk (ownsRow_le aH.out (show o≤V.heap.size by omega)) (qf D.out I.out) 2 (.slice U O X) (by decide));have ay:=hid aL;have ba:(w'.setCell ⟨q,2,none⟩ (.slice U O X)).heap.size=w'.heap.size:=by simp[World.setCell]
 have bc:=I.out.size;rw[Nat.zero_add,List.nil_append]at aK;have bh:q<(w'.setCell ⟨q,2,none⟩ (.slice U O X)).heap.size∧o<(w'.setCell ⟨q,2,none⟩ (.slice U O X)).heap.size∧o+1<(w'.setCell ⟨q,2,none⟩ (.slice U O X)).heap.size:=by omega
 clear aR aL ba bc D J af ae ah aH I aZ a3 bb c2 f2 c6;generalize w'.setCell ⟨q,2,none⟩ (.slice U O X)=V5 at*
 cases rt
 case false=>
  go_wp2_with (first|(refine L73 q rfl S.out ?_)|((with_reducible show wpList _ _ _ (Oper.mk none (Op.store 73 _ _) _ _ _ _::_) _ _);refine wpList_store_row rfl 73 _ _ rfl (o+1) #[.int .i64 k,.slice a5 n5 k5,.slice U O X,.bool la,.int .i64 i,.slice da dn dc] rfl rfl 73 _ aa.out (by kernel_rfl) rfl (by simp[Value.oneCell']) ?_))
  exact Bp (results_cell_row rfl _ _ _ _ _ _ _ rfl (setRow_heap _ _ _ _ _ _ aa.out) Tryz.underlying73 rfl (by kernel_rfl)) rfl (by rw[G];exact⟨_,_,rfl,Qg av.out aa.out (by decide),(Qg aK.out aa.out (by decide)),below_setRow ay.out (by omega) _⟩)
 case true=>
  have c1:V5.cell? ⟨o,1,none⟩=some (.int .i64 d):=qd aW.out 1;have c4:V5.cell? ⟨q,4,none⟩=some (.int .i64 i):=qd S.out 4;have f4:=frozen_of_row V5 q 4 _ _ S.out;go_upto_region 8 with(fail)
  have ap:=hid (heap_setCell_same V5 q 4 _ _ (.int .i64 d) S.out);have Y:=hid ((heap_setCell_other V5 ⟨q,4,none⟩ (o+1) (.int .i64 d) (show o+1≠q by omega)).trans aa.out);have au:=hid (Qk av.out S.out 4 (.int .i64 d) (by decide));have a9:=hid (Qk aK.out S.out 4 (.int .i64 d) (by decide));have aq:=hid (show Below o w (V5.setCell ⟨q,4,none⟩ (.int .i64 d)) from ay.out.setCell (show o≤q by omega) _);clear c1 c4 f4;generalize V5.setCell ⟨q,4,none⟩ (.int .i64 d)=V6 at*;go_wp2_with (first|(refine L73 q rfl ap.out ?_)|((with_reducible show wpList _ _ _ (Oper.mk none (Op.store 73 _ _) _ _ _ _::_) _ _);refine wpList_store_row rfl 73 _ _ rfl (o+1) #[.int .i64 k,.slice a5 n5 k5,.slice U O X,.bool la,.int .i64 d,.slice da dn dc] rfl rfl 73 _ Y.out (by kernel_rfl) rfl (by simp[Value.oneCell']) ?_))
  exact Bp (results_cell_row rfl _ _ _ _ _ _ _ rfl (setRow_heap _ _ _ _ _ _ Y.out) Tryz.underlying73 rfl (by kernel_rfl)) rfl (by rw[G];exact⟨_,_,rfl,Qg au.out Y.out (by decide),(Qg a9.out Y.out (by decide)),below_setRow aq.out (by omega) _⟩)
structure KB (B:Nat)(w w':World):Prop where
 os:w'.os=w.os
 tape:w'.tape=w.tape
 output:w'.output=w.output
 size:w.heap.size≤w'.heap.size
 block: ∀k:Nat,k<B→w'.heap[k]? =w.heap[k]?
 bytes: ∀(k:Nat) (c:Array Value),w.heap[k]? =some (.cells c 5 (0,0))→w'.heap[k]? =some (.cells c 5 (0,0))
namespace KB
variable {B:Nat} {w w' w'':World}
theorem refl (B:Nat)(w:World):KB B w w:=⟨rfl,rfl,rfl,Nat.le_refl _,fun _ _=>rfl,fun _ _ h=>h⟩
theorem trans (h:KB B w w')(k:KB B w' w''):KB B w w'':=⟨k.os.trans h.os,k.tape.trans h.tape,k.output.trans h.output,Nat.le_trans h.size k.size,fun j o=>(k.block j o).trans (h.block j o),fun j c q=>k.bytes j c (h.bytes j c q)⟩
theorem of_below (h:Below w.heap.size w w')(q:B≤w.heap.size):KB B w w':=⟨h.os,h.tape,h.output,h.size,fun k r=>h.block k (by omega),fun k c o=>(h.block k (Ai o).1).trans o⟩
theorem of_but {g:Nat}{c:Array Value}{T:TypeId}{fr:Nat×Nat}(h:But g w w')(G:B≤w.heap.size)(I:B≤g)(q:w.heap[g]? =some (.cells c T fr))(r:T≠5):KB B w w':=
 ⟨h.os,h.tape,h.output,h.size,fun k J=>h.block k (by omega) (by omega),fun k D o=>by
  rw[h.block k (Ai o).1 ?_];exact o;rintro rfl
  rw[q]at o;simp only[Option.some.injEq,Obj.cells.injEq]at o;exact r o.2.1⟩
theorem below (h:KB B w w'):Below B w w':=⟨h.os,h.tape,h.output,h.size,h.block⟩
end KB
theorem Fresh.kb {B b:Nat}{w w':World}{x:Value}{z:List Int}(h:Fresh B w x z)(k:KB b w w'):Fresh B w' x z:=by
 rcases h with h|⟨g,q,o,e,r,G,D⟩
 ·exact .inl h
 ·exact .inr ⟨g,q,o,e,r,k.bytes _ _ G,D⟩
theorem Q9 {B n:Nat}{w:World}{x:Value}{z:List Int}(h:w.ownsRow B 5 1 x n (z.map qo)):Fresh B w x z:=by
 have r:z.length=n:=by have:=h.1;simpa using this
 rcases h.2 with⟨rfl,O⟩|⟨g,q,o,rfl,D,I,S,G,U,J⟩
 ·exact .inl ⟨List.eq_nil_of_length_eq_zero (by omega),rfl⟩
 ·exact .inr ⟨g,q,o,by rw[r],D,I,by omega,by omega,G,by rw[r];simpa using J⟩
theorem Jz {B b n:Nat}{w w':World}{x:Value}{xs:List Value}(h:w.ownsRow B 5 1 x n xs)(k:KB b w w'):w'.ownsRow B 5 1 x n xs:=by
 refine⟨h.1,?_⟩;rcases h.2 with o|⟨g,r,q,e,D,o,G⟩
 ·exact .inl o
 ·exact .inr ⟨g,r,q,e,D,k.bytes _ _ o,G⟩
def OwnB (B:Nat)(w:World)(x:Value)(z:List Int):Prop:=(∀a∈z,0≤a∧a≤255)∧Fresh B w x z
theorem OwnB.kb {B b:Nat}{w w':World}{x:Value}{z:List Int}(h:OwnB B w x z)(k:KB b w w'):OwnB B w' x z:=⟨h.1,h.2.kb k⟩
theorem OwnB.hold {B:Nat}{w:World}{x:Value}{z:List Int}(h:OwnB B w x z):Hold w x z:=h.2.hold h.1
theorem OwnB.le {B b:Nat}{w:World}{x:Value}{z:List Int}(h:OwnB B w x z)(o:b≤B):OwnB b w x z:=⟨h.1,h.2.le o⟩
theorem OwnB.one {B:Nat}{w:World}{x:Value}{z:List Int}(h:OwnB B w x z):x.oneCell'=true:=by
 rcases h.2 with⟨-,rfl⟩|⟨g,q,o,rfl, -⟩<;>rfl
def qC (L:List (List Int))(i:Nat):List Int:=L.getD i []
def ListO (B:Nat)(w:World)(v:Value)(L:List (List Int)):Prop:=
 ∃vs,w.ownsRow B 24 1 v L.length vs∧ ∀i,i<L.length→OwnB B w (vs.getD i undef) (qC L i)
def ListH (w:World)(v:Value)(L:List (List Int)):Prop:=
 ∃a cap,v= .slice a L.length cap∧L.length≤cap∧(cap:Int)≤9223372036854775807∧(L=[]∨ ∃g off,a=some ⟨g,off,none⟩∧g<w.heap.size∧ ∀i,i<L.length→ ∃x,w.cell? ⟨g,off+i,none⟩=some x∧Hold w x (qC L i))
theorem ListO.hold {B:Nat}{w:World}{v:Value}{L:List (List Int)}(h:ListO B w v L):ListH w v L:=by
 obtain⟨vs,r,I⟩:=h;have V:vs.length=L.length:=by have:=r.1;simpa using this
 rcases r.2 with⟨rfl,D⟩|⟨g,G,o,rfl,U,q,O,S,X,J⟩
 ·exact⟨none,0,by rw[D],by omega,by omega,.inl (List.eq_nil_of_length_eq_zero D)⟩
 ·refine⟨_,G,rfl,O,by unfold maxLen at S;omega,.inr ⟨g,0,rfl,(Ai q).1,fun i hi=>⟨vs.getD i undef,?_,(I i hi).hold⟩⟩⟩;rw[qd q (0+i),Nat.zero_add];have e:o.toList[i]? =vs[i]? :=by rw[←J,List.getElem?_take,if_pos (by omega)]
  rw[←Array.getElem?_toList,e,Lg,List.getElem?_eq_getElem (by omega)];rfl
theorem ListH.below {w w':World}{v:Value}{L:List (List Int)}(h:ListH w v L)(o:Below w.heap.size w w'):ListH w' v L:=by
 obtain⟨a,D,rfl,G,I,q⟩:=h;refine⟨a,D,rfl,G,I,?_⟩;rcases q with q|⟨g,off,rfl,r,J⟩
 ·exact .inl q
 ·refine .inr ⟨g,off,rfl,Nat.lt_of_lt_of_le r o.size,fun i hi=>?_⟩;obtain⟨x,O,S⟩:=J i hi;exact⟨x,(o.cell (p:=⟨g,off+i,none⟩) r).trans O,S.below o⟩
theorem nthL_mem {L:List (List Int)}{i:Nat}(hi:i<L.length):qC L i∈L:=by
 unfold qC;rw[Lg,List.getElem?_eq_getElem hi];exact List.getElem_mem hi
theorem jG {L:List (List Int)}{k:Nat}(o:k<L.length):(L.take (k+1)).flatten=(L.take k).flatten++qC L k:=by
 have e:L.take (k+1)=L.take k++[qC L k]:=by
  unfold qC;rw[List.take_succ,Lg,List.getElem?_eq_getElem o];rfl
 rw[e,List.flatten_append];simp
theorem qdW (L:List (List Int))(k:Nat):(L.take k).flatten.length≤L.flatten.length:=by
 conv=>rhs;rw[←List.take_append_drop k L,List.flatten_append,List.length_append]
 omega
theorem qau (L:List (List Int))(v:Value)(w:World)(h:ListH w v L)(hn:L.flatten.length≤70368744177664):
  Calls Tryz.prog 66 #[v] w fun e w'=> ∃u,e= .returned u∧w'.ownsRow w.heap.size 5 1 u L.flatten.length (L.flatten.map qo)∧Below w.heap.size w w':=by
 obtain⟨i0,hi,Y,X,ab⟩:=info_parts Ql;obtain⟨I,r⟩:=Ex w.heap.size;have HH:=hid h;obtain⟨a,ag,rfl,ai,af, -⟩:=h;have ah:(L.length:Int)≤9223372036854775807:=by omega
 have HN:=hid hn;clear hn;go_enter Tryz.func66,Tryz.ntmps66
 go_wp2_with fail
 go_loopw [3,8] (fun s i wr=> ∃k:Nat,i= .int .i64 k∧k≤L.length∧wr.ownsRow I 5 1 s (L.take k).flatten.length ((L.take k).flatten.map qo)∧Below I w wr) (fun _ i _=>L.length - (intOf i).toNat)
 case atStart=>exact⟨0,rfl,Nat.zero_le _,Wo _ _ _ _,Below.refl _ _⟩
 case round=>
  obtain⟨k,rfl,hk,D,q⟩:=hrel;by_cases o:k<L.length
  case pos=>
   obtain⟨a',ac,e, -, -,h3⟩:=HH.out;obtain⟨g,off,rfl,h4,Z⟩:=h3.resolve_left (fun e=>by rw[e]at o;simp at o);simp only[Value.slice.injEq]at e;obtain⟨rfl, -, -⟩:=e;obtain⟨x,V,O⟩:=Z k o;have c0:wr.cell? ⟨g,off+k,none⟩=some x:=(q.cell (p:=⟨g,off+k,none⟩) (show g<I by omega)).trans V;have ae:g<wr.heap.size:=by have:=q.size;omega
   have HX:=hid (O.below (r▸q)).src;have U:=hid D;have S:=hid q;have G:=qdW L (k+1);rw[jG o,List.length_append]at G;have HF:=hid G;have ad:(k:Int)<L.length:=by omega
   clear V O Z h4 h3 D q G;go_wp2_with (at_builtin;refine qU rfl _ _ _ rfl w I r.symm S.out 5 i0 (.int .u8 0) 1 Tryz.underlying24 hi Y X ab rfl _ _ _ rfl U.out _ _ _ rfl HX.out (by have:=HF.out;have:=HN.out;unfold maxLen;omega) (by have:=HF.out;have:=HN.out;omega) ?_;intro v' w' J aa)
   refine⟨⟨k+1,rfl,by omega,?_,aa⟩,by simp[intOf];omega⟩;rw[jG o,List.length_append,List.map_append];exact J
  obtain rfl:k=L.length:=by omega
  rw[List.take_length]at D;have U:=hid D;have S:=hid q;clear D q;go_wp2
  go_ret
  exact⟨_,rfl,r▸U.out,r▸S.out⟩
theorem QN {P:Program}{ops:Array Oper}{G:List Oper}{o:Oper}{a:Act}{Q:Exit→Act→World→Prop}{W:World}(aa:o.guard=none)(s x:Operand)(t:TypeId)
  (ho:o.op= .call { callee:= .builtin .append,args:= #[s,x],argTypes:= #[t,t] }) (B:Nat) (e:TypeId) (he:e≠5) (i:TypeInfo) (z:Value) (size bytes:Nat) (ht:P.underlying t=some (.slice e)) (hi:P.info? e=some i) (hz:i.zero=some z)
  (S:i.size=size) (Z:i.bytes=bytes) (V:z.cells.size=size) (Y:0<size) (v:Value) (n:Nat) (xs I:List Value) (T:TypeId) (hs:a.eval s=v) (r:W.ownsRow B e size v n xs)
  (hx:a.eval x= .slice (some ⟨W.heap.size,0,none⟩) 1 1) (hl:I.length=size) (h1: ∀u∈I,u.oneCell'=true) (X:n+1≤maxLen) (O:(n+1)*bytes≤140737488355328) (hB:B≤W.heap.size)
  (h: ∀v' w',w'.ownsRow B e size v' (n+1) (xs++I)→KB B W w'→Spare (fun k=>v.ownBlock≠some k) W w'→wpList P ops Q G (a.put o.dst v') w'):wpList P ops Q (o::G) a (W.alloc (.cells I.toArray T)):=by
 refine wpList_append_own _ aa s x t ho B e i z size bytes ht hi hz S Z V Y v n xs hs (r.alloc _) ⟨W.heap.size,0,none⟩ 1 1 I hx (by omega) (fun j u hj=>?_) h1 X O (by simp;omega) fun v' w' h2 h3 _=>?_
 ·rw[Go.WideShapes.add_plain,qd (Wn W _) (0+j),Nat.zero_add];simpa using hj
 have q:Spare (fun k=>v.ownBlock≠some k) W w':=(Spare.of_below _ (Br.alloc Nl _)).trans (Spare.of_grown h3) (fun _ _ h=>h);refine h v' w' h2 ⟨q.os,q.tape,q.output,q.size,fun k hk=>q.block k (by omega) (fun D=>?_),fun k c J=>?_⟩ q
 ·rcases r.2 with⟨rfl, -⟩|⟨g,ab,U,rfl,h4, -⟩
  ·cases D
  ·simp only[Value.ownBlock,Option.some.injEq]at D;omega
 ·rw[q.block k (Ai J).1 (fun D=>?_)]
  ·exact J
  ·rcases r.2 with⟨rfl, -⟩|⟨g,ab,U,rfl, -,h5, -⟩
   ·cases D
   ·simp only[Value.ownBlock,Option.some.injEq]at D;subst D;rw[h5]at J;simp only[Option.some.injEq,Obj.cells.injEq]at J;exact he J.2.1
theorem ListO.nil (B:Nat)(w:World):ListO B w (.slice none 0 0) []:=⟨[],Wo _ _ _ _,fun i hi=>by simp at hi⟩
theorem ListO.kb {B b:Nat}{w w':World}{v:Value}{L:List (List Int)}(h:ListO B w v L)(k:KB b w w')(O: ∀g,v.ownBlock=some g→w'.heap[g]? =w.heap[g]?):ListO B w' v L:=by
 obtain⟨vs,r,G⟩:=h;refine⟨vs,⟨r.1,?_⟩,fun i hi=>(G i hi).kb k⟩;rcases r.2 with o|⟨g,D,q,rfl,I,o,J⟩
 ·exact .inl o
 ·exact .inr ⟨g,D,q,rfl,I,(O g rfl).trans o,J⟩
theorem ListO.below {B:Nat}{w w':World}{v:Value}{L:List (List Int)}(h:ListO B w v L)(k:Below w.heap.size w w'):ListO B w' v L:=by
 refine h.kb (KB.of_below k (Nat.zero_le _)) fun g o=>?_
 obtain⟨vs,q, -⟩:=h;rcases q.2 with⟨rfl, -⟩|⟨I,G,D,rfl, -,r, -⟩
 ·cases o
 ·simp only[Value.ownBlock,Option.some.injEq]at o;subst o;exact k.block _ (Ai r).1
theorem ListO.le {B b:Nat}{w:World}{v:Value}{L:List (List Int)}(h:ListO B w v L)(o:b≤B):ListO b w v L:=by
 obtain⟨vs,r,q⟩:=h;exact⟨vs,ownsRow_le r o,fun i hi=>(q i hi).le o⟩
theorem ListO.snoc {B:Nat}{w w':World}{v' x:Value}{L:List (List Int)}{z:List Int}{vs:List Value}(D: ∀i,i<L.length→OwnB B w (vs.getD i undef) (qC L i))(G:vs.length=L.length)(J:OwnB B w x z)
  (I:w'.ownsRow B 24 1 v' (L.length+1) (vs++[x])) (r:KB B w w'):ListO B w' v' (L++[z]):=by
 refine⟨vs++[x],by simpa using I,fun i hi=>?_⟩;simp only[List.length_append,List.length_singleton]at hi;by_cases h:i<L.length
 ·have q:(vs++[x]).getD i undef=vs.getD i undef:=by simp[Lg,List.getElem?_append_left (show i<vs.length by omega)]
  have o:qC (L++[z]) i=qC L i:=by simp[qC,Lg,List.getElem?_append_left h]
  rw[q,o];exact(D i h).kb r
 ·obtain rfl:i=L.length:=by omega
  have q:(vs++[x]).getD L.length undef=x:=by simp[Lg,←G]
  have o:qC (L++[z]) L.length=z:=by simp[qC,Lg]
  rw[q,o];exact J.kb r
theorem Yh:(Tryz.prog.info? 24).map (fun i=>(i.zero,i.size,i.bytes))=some (some (.slice none 0 0),1,24):=by kernel_rfl
theorem QS {ops:Array Oper}{r:List Oper}{o:Oper}{D:Act}{w:World}{Q:Exit→Act→World→Prop}(U:o.guard=none)(x:Operand)(O:o.op= .buildSlice 67 1 #[(0,x)])(a:Option Addr)(n k:Nat)(J:D.eval x= .slice a n k)
  (h:wpList Tryz.prog ops Q r (D.put o.dst (.slice (some ⟨w.heap.size,0,none⟩) 1 1)) (w.alloc (.cells #[.slice a n k] 24))):wpList Tryz.prog ops Q (o::r) D w:=by
 obtain⟨S,I,G,q, -⟩:=info_parts Yh;exact wpList_buildSlice U 67 24 1 _ O #[.slice a n k] S _ Tryz.underlying67 I G (by rw[q];decide) (by rw[q];decide) (by rw[q,show Array.range (1*1)= #[0] by decide];simp[J,Instr.fill,Value.cells]) h
end Go.Proofs.YthjoojnlnlmljaaGreat
namespace Go.Proofs.YthjoojnlnlmljaaGreat
open Go.ChangeShapes Go.WideShapes Go.ChangeAt Go.RowKit Go.Joins Go.Shelf Go.Maps
open Go.Lib (hid)
theorem Zh {n d j:Nat}(D:1≤d):j<qP n d↔j*d<n:=by
 have q:=Nat.div_add_mod n d;have G:=Nat.mod_lt n (show 0<d by omega);unfold qP;split
 ·rename_i r;rw[r,Nat.add_zero]at q;conv=>rhs;rw[←q,Nat.mul_comm]
  exact(Nat.mul_lt_mul_left (show 0<d by omega)).symm
 ·constructor
  ·intro h;have o:j*d≤(n/d)*d:=Nat.mul_le_mul_right d (by omega);rw[Nat.mul_comm (n/d) d]at o;omega
  ·intro h;have o:j*d<(n/d+1)*d:=by rw[Nat.add_mul,Nat.one_mul,Nat.mul_comm (n/d) d];omega
   exact Nat.lt_of_mul_lt_mul_right o
def piece {α:Type}(n:Nat)(L:List α)(i:Nat):List α:=(L.drop (i*n)).take n
def zT {α:Type}(n:Nat)(L:List α)(m:Nat):List (List α):=(List.range m).map (piece n L)
theorem qaW {α:Type}(n:Nat)(L:List α)(m:Nat):zT n L (m+1)=zT n L m++[piece n L m]:=by simp[zT,List.range_succ]
theorem Qv {α:Type}(n:Nat)(L:List α)(m:Nat):(zT n L m).length=m:=by simp[zT]
def QC (n:Nat)(zs:List Int):List (List Int):=if zs=[] then [[]] else zT n zs (qP zs.length n)
def ZA (f:Nat)(L:List (List Int))(m:Nat):List (List Int):=(List.range m).map fun i=>(piece f L i).flatten
theorem qb5 (f:Nat)(L:List (List Int))(m:Nat):ZA f L (m+1)=ZA f L m++[(piece f L m).flatten]:=by simp[ZA,List.range_succ]
theorem Qm (f:Nat)(L:List (List Int))(m:Nat):(ZA f L m).length=m:=by simp[ZA]
def TreeV.rootZ (t:TreeV)(row n:Nat):Bool:=decide (t.f=0∨(row:Int)=t.p - 1∨(n:Int)≤t.f)
def TreeV.upZ (t:TreeV)(row:Nat)(L:List (List Int)):List (List Int):=if t.rootZ row L.length then [L.flatten] else ZA t.fn L (qP L.length t.fn)
theorem YV {L M:List (List Int)}(h:M.Sublist L):M.flatten.length≤L.flatten.length:=by
 induction h with
 | slnil=>exact Nat.le_refl _
 | cons a _ ih=>simp only[List.flatten_cons,List.length_append];omega
 | cons_cons a _ ih=>simp only[List.flatten_cons,List.length_append];omega
theorem qak {α:Type}(n:Nat)(L:List α)(i:Nat):(piece n L i).Sublist L:=(List.take_sublist _ _).trans (List.drop_sublist _ _)
theorem qaq (L:List (List Int))(k i:Nat):qC (L.drop k) i=qC L (k+i):=by simp[qC,Lg,List.getElem?_drop]
theorem qhv {L:List (List Int)}{k i:Nat}(h:i<k):qC (L.take k) i=qC L i:=by simp[qC,Lg,List.getElem?_take,h]
theorem ListH.take {w:World}{a:Option Addr}{n c k:Nat}{L:List (List Int)}(h:ListH w (.slice a n c) L)(U:k≤L.length):ListH w (.slice a k k) (L.take k):=by
 obtain⟨X,V,e,O,S,q⟩:=h;simp only[Value.slice.injEq]at e;obtain⟨rfl, -,rfl⟩:=e;have r:(L.take k).length=k:=by simp;omega
 refine⟨a,k,by rw[r],by omega,by omega,?_⟩;by_cases o:L.take k=[]
 ·exact .inl o
 rcases q with q|⟨g,off,rfl,I,D⟩
 ·rw[q]at o;simp at o
 ·refine .inr ⟨g,off,rfl,I,fun i hi=>?_⟩;obtain⟨x,G,J⟩:=D i (by omega);exact⟨x,G,by rw[qhv (by omega)];exact J⟩
theorem ListH.drop {w:World}{a o:Option Addr}{n c k I D:Nat}{L:List (List Int)}(h:ListH w (.slice a n c) L)(hk:k≤L.length)(X:I=L.length - k)(hc:D=c - k)(g off:Nat)(S:a=some ⟨g,off,none⟩)(O:o=some ⟨g,off+k,none⟩∨o=some ⟨g,off,none⟩∧c≤k):ListH w (.slice o I D) (L.drop k):=by
 subst S;obtain⟨a1,c1,e,h1,h2,G⟩:=h;simp only[Value.slice.injEq]at e;obtain⟨rfl, -,rfl⟩:=e;refine⟨o,D,by simp[X],by simp;omega,by omega,?_⟩;by_cases J:L.drop k=[]
 ·exact .inl J
 have r:k<L.length:=Nat.lt_of_not_le fun q=>J (List.drop_eq_nil_of_le q)
 rcases O with rfl|⟨-,q⟩
 ·rcases G with G|⟨g',Y,e,q,U⟩
  ·rw[G]at r;simp at r
  ·simp only[Option.some.injEq,Addr.mk.injEq,and_true]at e;obtain⟨rfl,rfl⟩:=e;refine .inr ⟨g,off+k,rfl,q,fun i hi=>?_⟩;obtain⟨x,V,Z⟩:=U (k+i) (by simp at hi;omega);exact⟨x,by rw[Nat.add_assoc];exact V,by rw[qaq];exact Z⟩
 ·omega
end Go.Proofs.YthjoojnlnlmljaaGreat
namespace Go.Proofs.YthjoojnlnlmljaaGreat
open Go.ChangeShapes Go.WideShapes Go.ChangeAt Go.RowKit Go.Joins Go.Shelf Go.Maps
open Go.Lib (hid)
attribute [local go_sem] Oper.semAt_some
theorem qc5 {B:Nat}{w:World}{x:Value}{z:List Int}(q:OwnB B w x z)(o:B≤w.heap.size):ListO B (w.alloc (.cells #[x] 24)) (.slice (some ⟨w.heap.size,0,none⟩) 1 1) [z]:=by
 refine⟨[x],⟨rfl,.inr ⟨w.heap.size,1,#[x],rfl,o,Wn w _,Nat.le_refl _,by unfold maxLen;omega,rfl,rfl⟩⟩,fun i hi=>?_⟩;obtain rfl:i=0:=by simpa using hi
 exact q.kb (KB.of_below (Br.alloc Nl _) o)
theorem JC {L:List (List Int)}(h: ∀z∈L,∀a∈z,0≤a∧a≤255): ∀a∈L.flatten,0≤a∧a≤255:=fun a o=>by
 obtain⟨z,q,o⟩:=List.mem_flatten.1 o;exact h z q a o
theorem ListH.bytes {w:World}{v:Value}{L:List (List Int)}(h:ListH w v L): ∀z∈L,∀a∈z,0≤a∧a≤255:=fun z o a r=>by
 obtain⟨J,I, -, -, -,G⟩:=h;rcases G with rfl|⟨g,off, -, -,D⟩
 ·cases o
 ·obtain⟨i,hi,rfl⟩:=List.mem_iff_getElem.1 o;obtain⟨x, -,q⟩:=D i hi;have e:qC L i=L[i]:=by unfold qC;rw[Lg,List.getElem?_eq_getElem hi];rfl
  rw[e]at q;exact q.1 a r
theorem zq {B n:Nat}{w:World}{x:Value}{z:List Int}(o: ∀a∈z,0≤a∧a≤255)(h:w.ownsRow B 5 1 x n (z.map qo)):OwnB B w x z:=⟨o,Q9 h⟩
theorem qi2 (t:TreeV)(h:t.validE=0)(row:Nat)(hr:row≤255)(L:List (List Int))(v:Value)(w:World)(hL:ListH w v L)(hn:L.flatten.length≤1073741824)(a3:L.length≤16777216)(ap:L≠[]):
  Calls Tryz.prog 139 #[t.val,.int .i64 row,v] w fun e w'=> ∃u,e= .returned (.tuple #[u,.bool (t.rootZ row L.length)])∧ListO w.heap.size w' u (t.upZ row L)∧Below w.heap.size w w':=by
 obtain⟨q,G⟩:=Ex w.heap.size;have ab:=qn h;have aR:=ab.2.2.2.2.2.1;have bd:2≤t.p∧t.p≤255:=⟨ab.2.2.2.2.2.2.1,ab.2.2.2.2.2.2.2.1⟩;have o:t.rootZ row L.length=decide (t.f=0∨(row:Int)=t.p - 1∨(L.length:Int)≤t.f):=rfl;have az:t.upZ row L=if t.rootZ row L.length then [L.flatten] else ZA t.fn L (qP L.length t.fn):=rfl
 have aJ:(t.fn:Int)=t.f:=by unfold TreeV.fn;omega
 generalize t.upZ row L=U at*;generalize t.rootZ row L.length=rt at*;generalize t.fn=fn at*;obtain⟨k,d,f,p,l,i,ka,kl,kc,sa,sl,sc,pa,pl,pc⟩:=t;unfold TreeV.val;simp only at*
 clear ab h;have a7:0<L.length:=List.length_pos_iff.2 ap;have HL:=hid hL;have aB:=hid hL.bytes;have HN:=hid hn;have an:=hid az;obtain⟨a,aL,rfl,a4,bb, -⟩:=hL;clear az ap hn;have ay:Below q w (w.alloc (.cells #[.int .i64 k,.int .i64 d,.int .i64 f,.int .i64 p,.int .u32 l,.int .i64 i,.slice ka kl kc,.slice sa sl sc,.slice pa pl pc] 26)):=by rw[←G];exact Br.alloc Nl _
 have S:=Wn w (.cells #[.int .i64 k,.int .i64 d,.int .i64 f,.int .i64 p,.int .u32 l,.int .i64 i,.slice ka kl kc,.slice sa sl sc,.slice pa pl pc] 26);rw[G]at S;go_enter Tryz.func139,Tryz.ntmps139
 go_upto_region 1 with(fail)
 generalize w.alloc (.cells #[.int .i64 k,.int .i64 d,.int .i64 f,.int .i64 p,.int .u32 l,.int .i64 i,.slice ka kl kc,.slice sa sl sc,.slice pa pl pc] 26)=wA at*;have c2:wA.cell? ⟨q,2,none⟩=some (.int .i64 f):=qd S 2;have c3:wA.cell? ⟨q,3,none⟩=some (.int .i64 p):=qd S 3;have aP:q<wA.heap.size:=(Ai S).1;have aN:=hid S;have ae:=hid ay;clear S ay;go_cut [2,3,26] from 1 (fun x y u W=>x= .slice a L.length aL∧y= .pointer (some ⟨q,0,none⟩)∧u= .bool rt∧wA=W)
 case first=>
  by_cases h1:f=0
  case pos=>
   obtain rfl:rt=true:=by rw[o];exact decide_eq_true (.inl h1)
   have q1:(f==0)=true:=by rw[beq_iff_eq];exact h1
   clear o;subst h1;go_wp2
   go_meet
   case rel=>exact⟨rfl,rfl,rfl,by trivial⟩
  by_cases h2:(row:Int)=p - 1
  case pos=>
   obtain rfl:rt=true:=by rw[o];exact decide_eq_true (.inr (.inl h2))
   clear o;go_wp2
   go_meet
   case rel=>exact⟨rfl,rfl,rfl,by trivial⟩
  by_cases h3:(L.length:Int)≤f
  case pos=>
   obtain rfl:rt=true:=by rw[o];exact decide_eq_true (.inr (.inr h3))
   clear o;go_wp2
   go_meet
   case rel=>exact⟨rfl,rfl,rfl,by trivial⟩
  obtain rfl:rt=false:=by rw[o];exact decide_eq_false (by rintro(h|h|h);exact h1 h;exact h2 h;exact h3 h)
  clear o;go_wp2
  go_meet
  case rel=>exact⟨rfl,rfl,by simp[h1,h2],by trivial⟩
 case rest=>
  obtain⟨rfl,rfl,rfl,rfl⟩:=hcut;clear c3;have aI:=HL.out.below (G▸ae.out);obtain⟨ib,aw,ar,au,aE⟩:=info_parts Yh
  cases rt
  case true=>
   go_wp2_with fail
   refine(qau L _ _ aI (by have:=HN.out;omega)).mono ?_;rintro e w2 ⟨u,rfl,ho,hb⟩;have Y:=zq (JC aB.out) ho;have hB:=ae.out.trans (hb.mono (by omega));have HO:=hid (qc5 (Y.le (show q≤wA.heap.size by omega)) (by have:=hb.size;omega));have I:=hid (hB.alloc (by have:=hb.size;omega) (.cells #[u] 24));have hu:=Y.one;obtain⟨a6,n6,k6,rfl⟩:=qs ho;clear ho hb Y hB hu;go_wp2_with ((with_reducible show wpList _ _ _ (Oper.mk _ (Op.buildSlice _ _ _) _ _ _ _::_) _ _);refine QS rfl _ rfl _ _ _ rfl ?_)
   go_ret2
   exact⟨_,rfl,by rw[G,an.out,if_pos trivial];exact HO.out,by rw[G];exact I.out⟩
  case false=>
   have aO: ¬(f=0∨(row:Int)=p - 1∨(L.length:Int)≤f):=of_decide_eq_false o.symm;have bc:2≤f∧f≤255∧f<L.length:=by omega
   have aF:=hid (show U=ZA fn L (qP L.length fn) from an.out.trans (if_neg (by simp)));clear o aR aO an;subst aJ;go_wp2_with fail
   go_loopw [2,8] (fun x s wr=> ∃j:Nat,j≤qP L.length fn∧ListH w x (L.drop (j*fn))∧ListO (q+1) wr s (ZA fn L j)∧Below q w wr∧wr.heap[q]? =some (.cells #[.int .i64 k,.int .i64 d,.int .i64 (fn:Int),.int .i64 p,.int .u32 l,.int .i64 i,.slice ka kl kc,.slice sa sl sc,.slice pa pl pc] 26 (0,0))) (fun x _ _=>qeQ x)
   case atStart=>exact⟨0,Nat.zero_le _,by rw[Nat.zero_mul];exact HL.out,ListO.nil _ _,ae.out,aN.out⟩
   case round=>
    obtain⟨j,hj,hx,ho,hb,aa⟩:=hrel;have c2:wr.cell? ⟨q,2,none⟩=some (.int .i64 (fn:Int)):=qd aa 2;have aP:q<wr.heap.size:=(Ai aa).1;have aC:=hid aa;clear aa;have ad:1≤fn:=by omega
    obtain⟨a1,cp,rfl,aT,bi, -⟩:=id hx;have HX:=hid hx;have HO:=hid ho;have HB:=hid hb;have ah:(L.drop (j*fn)).length=L.length - j*fn:=by simp
    obtain⟨m,hm⟩:=Ex ((L.drop (j*fn)).length);rw[hm]at aT ah⊢;have O:=hid ah;clear hx ho hb ah;by_cases a9:0<m
    case pos=>
     have bh:j<qP L.length fn:=(Zh ad).2 (by have:=O.out;omega);obtain⟨k,hk⟩:=Ex (min fn m);have HK:=hid hk;have bg:1≤k∧k≤m∧k≤cp:=by omega
     have be:min (fn:Int) (m:Int)=(k:Int):=by omega
     have a5:0<(m:Int):=by omega
     clear hk;obtain⟨g,off,rfl,bf, -⟩: ∃g off,a1=some ⟨g,off,none⟩∧g<w.heap.size∧True:=by
      obtain⟨a',c',e, -, -,h3⟩:=HX.out;rcases h3 with h3|⟨g,off,rfl,h4, -⟩
      ·rw[h3]at hm;simp at hm;omega
      ·simp only[Value.slice.injEq]at e;exact⟨g,off,e.1,h4,trivial⟩
     have ac:piece fn L j=(L.drop (j*fn)).take k:=by
      unfold piece;by_cases h:fn≤m
      ·rw[show k=fn by have:=HK.out;omega]
      ·rw[show k=m by have:=HK.out;omega,List.take_of_length_le (by omega),List.take_of_length_le (by omega)]
     have aq:=hid ac;have aD:=hid ((ListH.take HX.out (k:=k) (by omega)).below (G▸HB.out));have ag:=Nat.le_trans (YV (qak fn L j)) HN.out;rw[ac]at ag;have ao:=hid ag;have aM:(k:Int)≤(cp:Int)∧(k:Int)≤(m:Int)∧0≤(k:Int):=by omega
     obtain⟨aW,aU,aV⟩:=aM;obtain⟨vs,Z,aj⟩:=HO.out;have ax:vs.length=j:=by have:=Z.1;rw[Qm]at this;omega
     rw[Qm]at Z aj;have aA:=hid aj;obtain⟨a8,n8,k8,rfl⟩:=qs Z;have av:=hid Z;have aY:j+1≤16777217:=by have:=Yq (n:=L.length) ad;omega
     clear ac ag Z aj;have HM:=hid hm;have X:q+1≤wr.heap.size:=by omega
     have ak:=hid (show ∀z∈(L.drop (j*fn)).take k,∀a∈z,0≤a∧a≤255 from fun z hz=>aB.out z (List.mem_of_mem_drop (List.mem_of_mem_take hz)));have aX:((L.drop (j*fn)).take k).length=k:=by rw[List.length_take];omega
     clear hm;by_cases aH:k=cp
     case pos=>
      subst aH;go_wp2_with fail
      refine(qau ((L.drop (j*fn)).take k) _ _ aD.out (by have:=ao.out;omega)).mono ?_;rintro e w2 ⟨u,rfl,J,r⟩;have Y:=zq (JC ak.out) J;have ai:=hid (Y.le X);have aK:=r.size;have al:=hid (KB.of_below r X);have am:=hid (show w2.ownsRow (q+1) 24 1 (.slice a8 n8 k8) j vs from qi av.out (fun g _ g2=>r.block g g2));obtain⟨a6,n6,k6,rfl⟩:=qs J;have I:=hid r;clear J r Y;go_wp2_with (first|((with_reducible show wpList _ _ _ (Oper.mk _ (Op.buildSlice _ _ _) _ _ _ _::_) _ _);refine QS rfl _ rfl _ _ _ rfl ?_)|(at_builtin;refine QN rfl _ _ _ rfl (q+1) 24 (by decide) ib (.slice none 0 0) 1 24 Tryz.underlying67 aw ar au aE rfl (by decide) (.slice a8 n8 k8) j vs [.slice a6 n6 k6] _ rfl am.out rfl rfl (by simp[Value.oneCell']) (by unfold maxLen;omega) (by omega) (by omega) ?_;intro v' w' V D aG))
      have aZ:m=k:=by omega
      have af:(L.drop (j*fn)).drop k=L.drop ((j+1)*fn):=by
       rw[List.drop_drop,Nat.add_mul,Nat.one_mul,List.drop_eq_nil_of_le (by have:=O.out;omega),List.drop_eq_nil_of_le (by have:=O.out;have:=HK.out;omega)]
      refine⟨⟨j+1,by omega,?_,?_,HB.out.trans ((I.out.mono (by omega)).trans (D.below.mono (by omega))),(D.block q (by omega)).trans (qf aC.out I.out)⟩,by simp[qeQ];omega⟩
      ·rw[←af];exact ListH.drop HX.out (by have:=HM.out;omega) (by have:=HM.out;omega) (by omega) g off rfl (.inr ⟨rfl,Nat.le_refl _⟩)
      ·rw[qb5];refine ListO.snoc (w:=w2) (vs:=vs) (x:= .slice a6 n6 k6) (fun i hi=>?_) (by rw[Qm];exact ax) (by rw[aq.out];exact ai.out) (by rw[Qm];exact V) D;rw[Qm]at hi;exact(aA.out i hi).kb al.out
     go_wp2_with fail
     refine(qau ((L.drop (j*fn)).take k) _ _ aD.out (by have:=ao.out;omega)).mono ?_;rintro e w2 ⟨u,rfl,J,r⟩;have Y:=zq (JC ak.out) J;have ai:=hid (Y.le X);have aK:=r.size;have al:=hid (KB.of_below r X);have am:=hid (show w2.ownsRow (q+1) 24 1 (.slice a8 n8 k8) j vs from qi av.out (fun g _ g2=>r.block g g2));obtain⟨a6,n6,k6,rfl⟩:=qs J;have I:=hid r;clear J r Y;go_wp2_with (first|((with_reducible show wpList _ _ _ (Oper.mk _ (Op.buildSlice _ _ _) _ _ _ _::_) _ _);refine QS rfl _ rfl _ _ _ rfl ?_)|(at_builtin;refine QN rfl _ _ _ rfl (q+1) 24 (by decide) ib (.slice none 0 0) 1 24 Tryz.underlying67 aw ar au aE rfl (by decide) (.slice a8 n8 k8) j vs [.slice a6 n6 k6] _ rfl am.out rfl rfl (by simp[Value.oneCell']) (by unfold maxLen;omega) (by omega) (by omega) ?_;intro v' w' V D aG))
     have af:(L.drop (j*fn)).drop k=L.drop ((j+1)*fn):=by
      rw[List.drop_drop,Nat.add_mul,Nat.one_mul];by_cases h:fn≤m
      ·rw[show k=fn by have:=HK.out;omega]
      ·rw[List.drop_eq_nil_of_le (by have:=O.out;have:=HK.out;omega),List.drop_eq_nil_of_le (by have:=O.out;have:=HK.out;omega)]
     refine⟨⟨j+1,by omega,?_,?_,HB.out.trans ((I.out.mono (by omega)).trans (D.below.mono (by omega))),(D.block q (by omega)).trans (qf aC.out I.out)⟩,by simp[qeQ];omega⟩
     ·rw[←af];exact ListH.drop HX.out (by have:=HM.out;omega) (by have:=HM.out;omega) (by omega) g off rfl (.inl rfl)
     ·rw[qb5];refine ListO.snoc (w:=w2) (vs:=vs) (x:= .slice a6 n6 k6) (fun i hi=>?_) (by rw[Qm];exact ax) (by rw[aq.out];exact ai.out) (by rw[Qm];exact V) D;rw[Qm]at hi;exact(aA.out i hi).kb al.out
    have aS:m=0:=by omega
    have ba:qP L.length fn≤j:=Nat.le_of_not_lt fun h=>by
     have:=(Zh ad).1 h
     have:=O.out
     omega
    obtain rfl:j=qP L.length fn:=by omega
    subst aS;clear hm;have aQ:=hid (HO.out.le (show q≤q+1 by omega));go_wp2
    go_ret2
    exact⟨_,rfl,by rw[G,aF.out];exact aQ.out,by rw[G];exact HB.out⟩
theorem qj7 (t:TreeV)(h:t.validE=0)(hl:0≤t.l∧t.l≤4294967295)(zs:List Int)(v:Value)(w:World)(hv:Hold w v zs)(hn:zs.length≤16777216):
  Calls Tryz.prog 108 #[t.val,v] w fun e w'=> ∃u,e= .returned u∧ListO w.heap.size w' u (QC t.ln zs)∧Below w.heap.size w w':=by
 obtain⟨I,J⟩:=Ex w.heap.size;have aI:=qn h;have aR:t.l≠0:=aI.2.2.2.2.2.2.2.2.1;have aO:(t.ln:Int)=t.l:=by unfold TreeV.ln;omega
 have ak:1≤t.ln:=by omega
 have aY:(t.ln:Int)≤4294967295:=by omega
 generalize t.ln=ln at*;obtain⟨k,d,f,p,l,i,ka,kl,kc,sa,sl,sc,pa,pl,pc⟩:=t;unfold TreeV.val;simp only at*
 clear aI h hl aR;subst aO;obtain⟨ib,aE,az,aA,aL⟩:=info_parts Yh;obtain⟨i0,hi,aN,am,aQ⟩:=info_parts Ql;have HV:=hid hv;obtain⟨a,bd,rfl,a6,bc⟩:=hv.slice;clear hv;have aG:Below I w (w.alloc (.cells #[.int .i64 k,.int .i64 d,.int .i64 f,.int .i64 p,.int .u32 (ln:Int),.int .i64 i,.slice ka kl kc,.slice sa sl sc,.slice pa pl pc] 26)):=by rw[←J];exact Br.alloc Nl _
 have ai:=Wn w (.cells #[.int .i64 k,.int .i64 d,.int .i64 f,.int .i64 p,.int .u32 (ln:Int),.int .i64 i,.slice ka kl kc,.slice sa sl sc,.slice pa pl pc] 26);rw[J]at ai;go_enter Tryz.func108,Tryz.ntmps108
 go_upto_region 1 with(fail)
 generalize w.alloc (.cells #[.int .i64 k,.int .i64 d,.int .i64 f,.int .i64 p,.int .u32 (ln:Int),.int .i64 i,.slice ka kl kc,.slice sa sl sc,.slice pa pl pc] 26)=wA at*;have c4:wA.cell? ⟨I,4,none⟩=some (.int .u32 (ln:Int)):=qd ai 4;have be:I<wA.heap.size:=(Ai ai).1;have aC:=hid aG;clear ai aG;by_cases h0:zs=[]
 case pos=>
  subst h0;have HR:=hid (qc5 (B:=I) (w:=wA) (x:= .slice none 0 0) (z:=[]) ⟨fun _ h=>by simp at h,.inl ⟨rfl,rfl⟩⟩ (by omega));have HB:=hid (aC.out.alloc (show I≤wA.heap.size by omega) (.cells #[.slice none 0 0] 24));go_wp2_with ((with_reducible show wpList _ _ _ (Oper.mk _ (Op.buildSlice _ _ _) _ _ _ _::_) _ _);refine QS rfl _ rfl _ _ _ rfl ?_)
  go_ret
  exact⟨_,rfl,by rw[J];exact HR.out,by rw[J];exact HB.out⟩
 have a9:0<zs.length:=List.length_pos_iff.2 h0;have aK:QC ln zs=zT ln zs (qP zs.length ln):=if_neg h0;have aU:=hid aK;have aX:((zs.length:Int)==0)=false:=beq_eq_false_iff_ne.2 (by omega);clear h0 aK;go_wp2_with fail
 go_loopw [1,5] (fun x s wr=> ∃j:Nat,j≤qP zs.length ln∧Hold w x (zs.drop (j*ln))∧ListO I wr s (zT ln zs j)∧Below I w wr) (fun x _ _=>qeQ x)
 case atStart=>exact⟨0,Nat.zero_le _,by rw[Nat.zero_mul];exact HV.out,ListO.nil _ _,aC.out⟩
 case round=>
  obtain⟨j,hj,hx,ho,hb⟩:=hrel;obtain⟨a1,cp,rfl,aW,bi⟩:=id hx.slice;have HX:=hid hx;have HO:=hid ho;have HB:=hid hb;have ap:(zs.drop (j*ln)).length=zs.length - j*ln:=by simp
  obtain⟨m,hm⟩:=Ex ((zs.drop (j*ln)).length);rw[hm]at aW ap⊢;have O:=hid ap;have Z:I≤wr.heap.size:=by have:=hb.size;omega
  clear hx ho hb ap;by_cases ba:0<m
  case pos=>
   have bh:j<qP zs.length ln:=(Zh ak).2 (by have:=O.out;omega);obtain⟨k,hk⟩:=Ex (min ln m);have HK:=hid hk;have bj:m≤16777216:=by have:=O.out;omega
   have bg:1≤k∧k≤m∧k≤cp:=by omega
   have bf:min (ln:Int) (m:Int)=(k:Int):=by omega
   have a7:0<(m:Int):=by omega
   obtain⟨g,off,rfl⟩:=qax HX.out (by rintro e;rw[e]at hm;simp at hm;omega);have av:piece ln zs j=(zs.drop (j*ln)).take k:=by
    unfold piece;by_cases h:ln≤m
    ·rw[show k=ln by have:=HK.out;omega]
    ·rw[show k=m by have:=HK.out;omega,List.take_of_length_le (by omega),List.take_of_length_le (by omega)]
   have ay:=hid av;have aw:((zs.drop (j*ln)).take k).length=k:=by rw[List.length_take];omega
   have q:=hid aw;have ax:=hid ((HX.out.below (J▸HB.out)).src);have HZ:=hid (show ∀z∈(zs.drop (j*ln)).take k,0≤z∧z≤255 from fun z hz=>HX.out.1 z (List.mem_of_mem_take hz));obtain⟨vs,aa,aq⟩:=HO.out;have aF:vs.length=j:=by have:=aa.1;rw[Qv]at this;omega
   rw[Qv]at aa aq;have aJ:=hid aq;obtain⟨a8,n8,k8,rfl⟩:=qs aa;have aB:=hid aa;have a5:j+1≤16777217:=by have:=Yq (n:=zs.length) ak;omega
   have aS:(k:Int)≤(cp:Int)∧(k:Int)≤(m:Int)∧0≤(k:Int):=by omega
   obtain⟨a4,aZ,a3⟩:=aS;have HM:=hid hm;have aj:=fun W:World=>run_make (P:=Tryz.prog) W 24 5 i0 (.int .u8 0) Tryz.underlying24 hi aN .i64 .i64 k k (by omega) (by omega) (by rw[aQ];omega) (by omega)
   simp only[am]at aj;have aH:madeCells Kc k=(List.replicate k (.int .u8 0)).toArray:=by
    apply Array.toList_inj.1
    rw[toList_madeCells_one]
   have aD:=hid aH;clear hk av aw aa aq hm aH;by_cases aP:k=cp
   case pos=>
    subst aP;go_upto_region 8 with(fail)
    obtain⟨G,r⟩:=Ex wr.heap.size;have af:(wr.alloc (.cells (madeCells Kc k) 5)).heap[G]? =some (.cells (List.replicate k (.int .u8 0)).toArray 5 (0,0)):=by rw[←aD.out,←r];exact Wn _ _
    have V:Below G wr (wr.alloc (.cells (madeCells Kc k) 5)):=by rw[←r];exact Br.alloc Nl _
    rw[r];generalize wr.alloc (.cells (madeCells Kc k) 5)=w3 at*;have ah:=ax.out.below (r▸V);have ae: ∀(i:Nat) (v:Value),(((zs.drop (j*ln)).take k).map qo)[i]? =some v→w3.cell? ((⟨g,off,none⟩:Addr).add i)=some v:=fun i v D=>by
     rcases ah.2.2 with⟨e, -⟩|⟨ad,c,e,h2⟩
     ·cases e
     ·simp only[Value.slice.injEq,Option.some.injEq]at e;obtain⟨rfl, -, -⟩:=e;refine h2 i v ?_;rw[List.getElem?_map]at D⊢;by_cases ac:i<k
      ·rw[List.getElem?_take,if_pos ac]at D;exact D
      ·rw[List.getElem?_take,if_neg ac]at D;cases D
    clear aj;go_upto_region 9 with((with_reducible show wpList _ _ _ (Oper.mk (some 27) _ _ _ _ _::_) _ _);refine wpList_copy_splice rfl _ _ _ _ rfl 5 Tryz.underlying24 (by rw[hi];simp[am]) _ _ _ _ _ _ rfl rfl G 0 (List.replicate k (.int .u8 0)) 5 af (((zs.drop (j*ln)).take k).map qo) (by rw[List.length_map,q.out];exact(Nat.min_eq_right (by omega)).symm) (fun _=>⟨rfl,⟨g,off,none⟩,rfl,ae⟩) (by rw[List.length_map,q.out,List.length_replicate];omega) (fun u hu=>by obtain⟨z, -,rfl⟩:=List.mem_map.1 hu;rfl) G wr V Nl ?_;intro Y ag ab)
    have S:splice (List.replicate k (.int .u8 0)) 0 (((zs.drop (j*ln)).take k).map qo)=((zs.drop (j*ln)).take k).map qo:=by
     have:=q.out
     simp only[splice,List.take_zero,List.nil_append,List.length_map,this,Nat.zero_add,List.drop_replicate,Nat.sub_self,List.replicate_zero,List.append_nil]
    have ar:=hid (show OwnB I Y (.slice (some ⟨G,0,none⟩) k k) ((zs.drop (j*ln)).take k) from zq HZ.out ⟨by rw[List.length_map,q.out,Nat.mul_one],.inr ⟨G,k,_,rfl,by omega,ag.out,Nat.le_refl _,by unfold maxLen;omega,by rw[S,List.size_toArray,List.length_map,q.out,Nat.mul_one],by rw[S,List.toList_toArray,List.take_of_length_le (by rw[List.length_map,q.out,Nat.mul_one];omega)]⟩⟩);have o:Below wr.heap.size wr Y:=r▸ab;have ao:=hid (KB.of_below o Z);have al:=hid o;have au:=hid (show Y.ownsRow I 24 1 (.slice a8 n8 k8) j vs from qi aB.out (fun g _ g2=>o.block g g2));have aT:=o.size;clear S ah ae ag ab o af V;go_wp2_with (first|((with_reducible show wpList _ _ _ (Oper.mk _ (Op.buildSlice _ _ _) _ _ _ _::_) _ _);refine QS rfl _ rfl _ _ _ rfl ?_)|(at_builtin;refine QN rfl _ _ _ rfl I 24 (by decide) ib (.slice none 0 0) 1 24 Tryz.underlying67 aE az aA aL rfl (by decide) (.slice a8 n8 k8) j vs [.slice (some ⟨G,0,none⟩) k k] _ rfl au.out rfl rfl (by simp[Value.oneCell']) (by unfold maxLen;omega) (by omega) (by omega) ?_;intro v' w' X U aM))
    have an:(zs.drop (j*ln)).drop k=zs.drop ((j+1)*ln):=by
     rw[List.drop_drop,Nat.add_mul,Nat.one_mul];by_cases h:ln≤m
     ·rw[show k=ln by have:=HK.out;omega]
     ·rw[List.drop_eq_nil_of_le (by have:=O.out;have:=HK.out;omega),List.drop_eq_nil_of_le (by have:=O.out;have:=HK.out;omega)]
    refine⟨⟨j+1,by omega,?_,?_,HB.out.trans ((al.out.mono Z).trans U.below)⟩,by simp[qeQ];omega⟩
    ·rw[←an];exact jT HX.out (by have:=HM.out;omega) (by have:=HM.out;omega) (by omega) g off rfl (.inr ⟨rfl,rfl⟩)
    ·rw[qaW];refine ListO.snoc (w:=Y) (vs:=vs) (x:= .slice (some ⟨G,0,none⟩) k k) (fun i hi=>?_) (by rw[Qv];exact aF) (by rw[ay.out];exact ar.out) (by rw[Qv];exact X) U;rw[Qv]at hi;exact(aJ.out i hi).kb ao.out
   go_upto_region 8 with(fail)
   obtain⟨G,r⟩:=Ex wr.heap.size;have af:(wr.alloc (.cells (madeCells Kc k) 5)).heap[G]? =some (.cells (List.replicate k (.int .u8 0)).toArray 5 (0,0)):=by rw[←aD.out,←r];exact Wn _ _
   have V:Below G wr (wr.alloc (.cells (madeCells Kc k) 5)):=by rw[←r];exact Br.alloc Nl _
   rw[r];generalize wr.alloc (.cells (madeCells Kc k) 5)=w3 at*;have ah:=ax.out.below (r▸V);have ae: ∀(i:Nat) (v:Value),(((zs.drop (j*ln)).take k).map qo)[i]? =some v→w3.cell? ((⟨g,off,none⟩:Addr).add i)=some v:=fun i v D=>by
    rcases ah.2.2 with⟨e, -⟩|⟨ad,c,e,h2⟩
    ·cases e
    ·simp only[Value.slice.injEq,Option.some.injEq]at e;obtain⟨rfl, -, -⟩:=e;refine h2 i v ?_;rw[List.getElem?_map]at D⊢;by_cases ac:i<k
     ·rw[List.getElem?_take,if_pos ac]at D;exact D
     ·rw[List.getElem?_take,if_neg ac]at D;cases D
   clear aj;go_upto_region 9 with((with_reducible show wpList _ _ _ (Oper.mk (some 27) _ _ _ _ _::_) _ _);refine wpList_copy_splice rfl _ _ _ _ rfl 5 Tryz.underlying24 (by rw[hi];simp[am]) _ _ _ _ _ _ rfl rfl G 0 (List.replicate k (.int .u8 0)) 5 af (((zs.drop (j*ln)).take k).map qo) (by rw[List.length_map,q.out];exact(Nat.min_eq_right (by omega)).symm) (fun _=>⟨rfl,⟨g,off,none⟩,rfl,ae⟩) (by rw[List.length_map,q.out,List.length_replicate];omega) (fun u hu=>by obtain⟨z, -,rfl⟩:=List.mem_map.1 hu;rfl) G wr V Nl ?_;intro Y ag ab)
   have S:splice (List.replicate k (.int .u8 0)) 0 (((zs.drop (j*ln)).take k).map qo)=((zs.drop (j*ln)).take k).map qo:=by
    have:=q.out
    simp only[splice,List.take_zero,List.nil_append,List.length_map,this,Nat.zero_add,List.drop_replicate,Nat.sub_self,List.replicate_zero,List.append_nil]
   have ar:=hid (show OwnB I Y (.slice (some ⟨G,0,none⟩) k k) ((zs.drop (j*ln)).take k) from zq HZ.out ⟨by rw[List.length_map,q.out,Nat.mul_one],.inr ⟨G,k,_,rfl,by omega,ag.out,Nat.le_refl _,by unfold maxLen;omega,by rw[S,List.size_toArray,List.length_map,q.out,Nat.mul_one],by rw[S,List.toList_toArray,List.take_of_length_le (by rw[List.length_map,q.out,Nat.mul_one];omega)]⟩⟩);have o:Below wr.heap.size wr Y:=r▸ab;have ao:=hid (KB.of_below o Z);have al:=hid o;have au:=hid (show Y.ownsRow I 24 1 (.slice a8 n8 k8) j vs from qi aB.out (fun g _ g2=>o.block g g2));have aT:=o.size;clear S ah ae ag ab o af V;go_wp2_with (first|((with_reducible show wpList _ _ _ (Oper.mk _ (Op.buildSlice _ _ _) _ _ _ _::_) _ _);refine QS rfl _ rfl _ _ _ rfl ?_)|(at_builtin;refine QN rfl _ _ _ rfl I 24 (by decide) ib (.slice none 0 0) 1 24 Tryz.underlying67 aE az aA aL rfl (by decide) (.slice a8 n8 k8) j vs [.slice (some ⟨G,0,none⟩) k k] _ rfl au.out rfl rfl (by simp[Value.oneCell']) (by unfold maxLen;omega) (by omega) (by omega) ?_;intro v' w' X U aM))
   have an:(zs.drop (j*ln)).drop k=zs.drop ((j+1)*ln):=by
    rw[List.drop_drop,Nat.add_mul,Nat.one_mul];by_cases h:ln≤m
    ·rw[show k=ln by have:=HK.out;omega]
    ·rw[List.drop_eq_nil_of_le (by have:=O.out;have:=HK.out;omega),List.drop_eq_nil_of_le (by have:=O.out;have:=HK.out;omega)]
   refine⟨⟨j+1,by omega,?_,?_,HB.out.trans ((al.out.mono Z).trans U.below)⟩,by simp[qeQ];omega⟩
   ·rw[←an];exact jT HX.out (by have:=HM.out;omega) (by have:=HM.out;omega) (by omega) g off rfl (.inl rfl)
   ·rw[qaW];refine ListO.snoc (w:=Y) (vs:=vs) (x:= .slice (some ⟨G,0,none⟩) k k) (fun i hi=>?_) (by rw[Qv];exact aF) (by rw[ay.out];exact ar.out) (by rw[Qv];exact X) U;rw[Qv]at hi;exact(aJ.out i hi).kb ao.out
  have aV:m=0:=by omega
  have bb:qP zs.length ln≤j:=Nat.le_of_not_lt fun h=>by
   have:=(Zh ak).1 h
   have:=O.out
   omega
  obtain rfl:j=qP zs.length ln:=by omega
  subst aV;clear hm;go_wp2
  go_ret
  exact⟨_,rfl,by rw[J,aU.out];exact HO.out,by rw[J];exact HB.out⟩
end Go.Proofs.YthjoojnlnlmljaaGreat
