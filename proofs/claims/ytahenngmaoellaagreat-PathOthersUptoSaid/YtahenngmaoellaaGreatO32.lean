/- Lemmas. No condition. -/
import Derived.Test.YtahenngmaoellaaGreatO30
import Derived.Test.YtahenngmaoellaaGreatO31
set_option linter.all false
set_option maxRecDepth 100000
set_option maxHeartbeats 0
namespace Go.Proofs.YtahenngmaoellaaGreat
open Go.ChangeShapes Go.WideShapes Go.ChangeAt Go.RowKit Go.Joins Go.Shelf Go.Maps
open Go.Lib (hid)
variable{q p base b' n b B g:Nat}{o r z:List Int}{w' W:World}{c cs:Array Value}{T:TypeId}{fr:Nat×Nat}{v x:Value}{xs:List Value}{L:List (List Int)}{ops:Array Oper}{Q:Exit->Act->World->Prop}
attribute [local go_sem] Oper.semAt_some
theorem qh8 {big:Bool}{v:Nat->Nat}(r:ParOk big v)(a1 a2:Option Addr){o:Nat}(c1 c2:Nat)(D:o<=sB big)(G:q<=sB big)(w:World):
  Calls Tryz.prog 137 #[.int .i64 (kB big),parN v (.slice a1 o c1) (.slice a2 q c2)] w fun e w'=>e= .returned (.int .i64 0)/\Below w.heap.size w w':=by
 unfold parN;rw[r.x0];exact qcs big _ _ _ _ _ _ _ _ a1 a2 o q c1 c2 w r.p D G
theorem qdt (big:Bool)(v:Nat->Nat)(z1 z2:List Int)(sa pe:Value)(w:World)(hP:ParOk big v)(h1:Hold w sa z1)(h2:Hold w pe z2)(X:z1.length<=sB big)(V:z2.length<=sB big):
  Calls Tryz.prog 109 #[.int .i64 (kB big),parN v sa pe] w fun e w'=>(∃r,e= .returned (.tuple #[r,.int .i64 0])/\w'.ownsRow w.heap.size 5 1 r (mB big) ((QV big v z1 z2).map qp))/\Below w.heap.size w w':=by
 obtain⟨a1,c1,rfl,bu,bM⟩:=h1.slice;obtain⟨a2,c2,rfl,bQ,bA⟩:=h2.slice;obtain⟨i0,hi,bP,aP,bG⟩:=info_parts Qu;obtain⟨o,ag⟩:=Ex w.heap.size;have aH:=hid (qh8 hP a1 a2 c1 c2 X V);have a4:Below o w (w.alloc (.cells #[.int .i64 (v 1),.int .i64 (v 2),.int .i64 (v 3),.int .i64 (v 4),.int .u32 (v 5),.int .u64 (v 6),.int .u32 (v 7),.int .i64 (v 8),.int .i64 (v 9),.slice a1 z1.length c1,.slice a2 z2.length c2] 179)):=by rw[<-ag];exact Br.alloc Nl _
 have aj:=Wn w (.cells #[.int .i64 (v 1),.int .i64 (v 2),.int .i64 (v 3),.int .i64 (v 4),.int .u32 (v 5),.int .u64 (v 6),.int .u32 (v 7),.int .i64 (v 8),.int .i64 (v 9),.slice a1 z1.length c1,.slice a2 z2.length c2] 179);rw[ag]at aj;have bN:=hid h1;have bJ:=hid h2;have av:=hid hP;have aw:=hid X;have ay:=hid V;clear hP h1 h2 X V bu bM bQ bA;unfold parN parV;unfold parN parV at aH;go_enter Tryz.func109,Tryz.ntmps109
 go_upto_region 1 with(fail)
 generalize w.alloc (.cells #[.int .i64 (v 1),.int .i64 (v 2),.int .i64 (v 3),.int .i64 (v 4),.int .u32 (v 5),.int .u64 (v 6),.int .u32 (v 7),.int .i64 (v 8),.int .i64 (v 9),.slice a1 z1.length c1,.slice a2 z2.length c2] 179)=wA at*;go_wp2_with (refine L179 o rfl aj ?_)
 refine(aH.out wA).mono ?_;rintro e w1 ⟨rfl,ax⟩;have aS:=qf aj ax;have ah:=ax.size;have bl:o<wA.heap.size:=(Ai aj).1;have bT:o<w1.heap.size:=by omega
 have bk:=hid aS;have be:=hid (show Below o w w1 from a4.trans (ax.mono (by omega)));clear ax a4 aj aS ah bl aH;go_wp2_with fail
 refine(jt big _).mono ?_;rintro e w2 ⟨rfl,hw⟩;rw[hw];clear hw w2;obtain⟨M,hM⟩:=Ex (mB big);obtain⟨S,hS⟩:=Ex (sB big);have bK:4*S=M:=by rw[<-hM,<-hS];cases big<;>rfl
 have bv:8<=S/\S<=16:=by rw[<-hS];cases big<;>decide
 rw[hM,hS];have bh:=fun W:World=>run_make (P:=Tryz.prog) W 24 5 i0 (.int .u8 0) Tryz.underlying24 hi bP .i64 .i64 M M (by omega) (by omega) (by rw[bG];omega) (by omega)
 simp only[aP]at bh;go_wp2_with fail
 obtain⟨g,hg⟩:=Ex w1.heap.size;have aW:madeCells Kc M=((List.replicate M (0:Int)).map qp).toArray:=by
  apply Array.toList_inj.1
  rw[toList_madeCells_one];simp[qp]
 have aU:RowB (w1.alloc (.cells (madeCells Kc M) 5)) g (QD big (v 7==0) v 0):=by
  unfold RowB;rw[aW,<-hg,<-hM];exact Wn _ _
 have a8:Below o w (w1.alloc (.cells (madeCells Kc M) 5)):=be.out.alloc (by omega) _;have aV:(w1.alloc (.cells (madeCells Kc M) 5)).heap[o]? =some (.cells #[.int .i64 (v 1),.int .i64 (v 2),.int .i64 (v 3),.int .i64 (v 4),.int .u32 (v 5),.int .u64 (v 6),.int .u32 (v 7),.int .i64 (v 8),.int .i64 (v 9),.slice a1 z1.length c1,.slice a2 z2.length c2] 179 (0,0)):=by
  rw[Bh _ _ _ (by omega)];exact bk.out
 have bz:(w1.alloc (.cells (madeCells Kc M) 5)).heap.size=g+1:=by simp[hg]
 rw[hg];generalize w1.alloc (.cells (madeCells Kc M) 5)=w5 at*;refine(qiy big _).mono ?_;rintro e w6 ⟨⟨rb,rfl,b5,aR⟩,ak⟩;have b4:=ak.size;have bO:=hid (show RowB w6 g (QD big (v 7==0) v 0) from(ak.block g (by omega)).trans aU);have bw:=hid ((ak.block o (by omega)).trans aV);have bF:=hid (show Below o w w6 from a8.trans (ak.mono (by omega)));obtain⟨aX,aq,aa⟩:=aR;have bU:rb<w6.heap.size:=(Ai aq).1;have bm:=hid aq;have bp:=hid aa;have cb:o<g/\g<rb:=by omega
 clear aU aV a8 ak aq aa aW bh bk be bz;go_wp2_with fail
 go_loopw [30] (fun i wr=> ∃k:Nat,i= .int .i64 k/\k<=9/\RowB wr g (QD big (v 7==0) v k)/\But g w6 wr) (fun i _=>9 - (intOf i).toNat)
 case atStart=>exact⟨0,rfl,by omega,bO.out,But.refl _ _⟩
 case round=>
  obtain⟨k,rfl,hk,aa,hb⟩:=hrel;have HW:=hid aa;have HB:=hid hb;have bx:=hb.size;have ae:=Q0 big (v 7==0) v k hk;have au:wr.heap[o]? =some (.cells #[.int .i64 (v 1),.int .i64 (v 2),.int .i64 (v 3),.int .i64 (v 4),.int .u32 (v 5),.int .u64 (v 6),.int .u32 (v 7),.int .i64 (v 8),.int .i64 (v 9),.slice a1 z1.length c1,.slice a2 z2.length c2] 179 (0,0)):=(hb.block o (by omega) (by omega)).trans bw.out;by_cases bj:k<9
  case pos=>
   obtain⟨nm,an,q0,q1,q2,q3,q4,q5,q6⟩:=bp.out k bj;have bg:=hid ((hb.block rb (by omega) (by omega)).trans bm.out);have HQ:=hid (show ∀j,j<5->aX[k*5+j]? =(#[.int .i64 ((k+1:Nat):Int),.int .i64 (atB big (k+1):Nat),.int .i64 (szB big (k+1):Nat),nm,an]:Array Value)[j]? from fun j hj=>by
    rcases(show j=0\/j=1\/j=2\/j=3\/j=4 by omega)with rfl|rfl|rfl|rfl|rfl
    ·exact q0
    ·exact q1
    ·exact q2
    ·exact q3
    ·exact q4)
   have H1:=hid (show(#[.int .i64 ((k+1:Nat):Int),.int .i64 (atB big (k+1):Nat),.int .i64 (szB big (k+1):Nat),nm,an]:Array Value).all (·.oneCell')=true by simp only[List.all_toArray,List.all_cons,List.all_nil,q5,q6];rfl);have cd:(k:Int)<9:=by omega
   have al:=hid au;clear q0 q1 q2 q3 q4 q5 q6 aa hb au;go_upto_region 9 with(first|((with_reducible show wpList _ _ _ (Oper.mk _ (Op.load 225 _) _ _ _ _::_) _ _);refine wpList_plain rfl fun K hK=>Qt 225 _ rfl rb (k*5) (by kernel_rfl) 225 aX #[.int .i64 ((k+1:Nat):Int),.int .i64 (atB big (k+1):Nat),.int .i64 (szB big (k+1):Nat),nm,an] (0,0) _ bg.out Tryz.underlying225 rfl (by kernel_rfl) HQ.out (hK _ _ ?_))|((with_reducible show wpList _ _ _ (Oper.mk none (Op.store 225 _ _) _ _ _ _::_) _ _);refine wpList_store_row rfl 225 _ _ rfl wr.heap.size #[.int .i64 ((k+1:Nat):Int),.int .i64 (atB big (k+1):Nat),.int .i64 (szB big (k+1):Nat),nm,an] rfl rfl 225 _ (Wn _ _) (by kernel_rfl) rfl H1.out ?_))
   refine qm ?_;intro Wq aD;obtain⟨q,hq⟩:=Ex wr.heap.size;have az:Wq.heap[q]? =some (.cells #[.int .i64 ((k+1:Nat):Int),.int .i64 (atB big (k+1):Nat),.int .i64 (szB big (k+1):Nat),nm,an] 225 (0,0)):=by rw[aD,<-hq];exact setRow_heap _ _ _ _ _ _ (Wn _ _)
   have ab:Below q wr Wq:=by rw[aD,<-hq];exact below_setRow (Br.alloc Nl _) Nl _
   rw[hq];have b8:g<q/\o<q:=by omega
   have aZ:But g w6 Wq:=HB.out.trans ⟨ab.os,ab.tape,ab.output,ab.size,fun j hj _=>ab.block j (by omega)⟩;have aB:=hid (show RowB Wq g (QD big (v 7==0) v k) from(ab.block g (by omega)).trans HW.out);have aQ:=hid ((ab.block o (by omega)).trans al.out);have aE:=hid az;have aJ:=hid aZ;have bE:q<Wq.heap.size:=(Ai az).1;have c0:Wq.cell? ⟨q,0,none⟩=some (.int .i64 ((k+1:Nat):Int)):=qd az 0;clear aD hq bg HQ H1 HW HB al az ab aZ;by_cases h7:k=6
   case pos=>
    subst h7;have c6:Wq.cell? ⟨o,6,none⟩=some (.int .u32 (v 7)):=qd aQ.out 6;have bW:o<Wq.heap.size:=by omega
    have b7:((v 7:Int)==0)=true:=by rw[av.out.x0];rfl
    go_wp2
    refine⟨⟨7,rfl,by omega,?_,aJ.out⟩,by simp[intOf]⟩;have e:QD big (v 7==0) v 7=QD big (v 7==0) v 6:=by rw[QD,if_pos ⟨rfl,by rw[av.out.x0];rfl⟩]
    rw[e];exact aB.out
   have h8: ¬((k:Int)=6):=by omega
   have bo:szB big (k+1)<=8/\atB big (k+1)+szB big (k+1)<=M:=by
    rw[<-hM];rcases(show k=0\/k=1\/k=2\/k=3\/k=4\/k=5\/k=6\/k=7\/k=8 by omega)with rfl|rfl|rfl|rfl|rfl|rfl|rfl|rfl|rfl<;>cases big<;>decide
   have ba:=hid bo;go_upto_region 10 with(fail)
   refine qE (n:=9) (w0:=Wq) (B:=Wq.heap.size) [.v 42 (.slice (some ⟨g,0,none⟩) M M),.z 43 q 1,.v 44 (.int .i64 (atB big (k+1):Nat)),.z 45 q 2,.v 46 (.int .i64 (szB big (k+1):Nat)),.v 47 (.agg #[.int .i64 (v 1),.int .i64 (v 2),.int .i64 (v 3),.int .i64 (v 4),.int .u32 (v 5),.int .u64 (v 6),.int .u32 (v 7),.int .i64 (v 8),.int .i64 (v 9),.slice a1 z1.length c1,.slice a2 z2.length c2]),.z 48 q 0,.v 49 (.int .i64 ((k+1:Nat):Int)),.v 50 (.int .u64 (v (k+1):Nat))] trivial Br.drew Nl ?_ ?_
   ·repeat' (with_reducible first|exact qz|refine qx ?_ ?_)
    all_goals try
     intro A x W J G U I D K hK;have af:=J.2 10 (by decide);conv at af=>rhs;whnf
     have bD:=J.2 12 (by decide);conv at bD=>rhs;whnf
     simp only[QS,yc]at D;clear I J;have y:=qf aE.out G;have y0:W.cell? ⟨q,0,none⟩=some (.int .i64 ((k+1:Nat):Int)):=qd y 0;have y1:W.cell? ⟨q,1,none⟩=some (.int .i64 (atB big (k+1):Nat)):=qd y 1;have y2:W.cell? ⟨q,2,none⟩=some (.int .i64 (szB big (k+1):Nat)):=qd y 2;have y3:q<W.heap.size:=by omega
     go_simp
     exact hK _ _ BR rfl
    ·intro A x W J G U I _ K hK;have a3:=J.2 3 (by decide);conv at a3=>rhs;whnf
     clear I J;exact Qt 179 _ rfl o 0 a3 179 #[.int .i64 (v 1),.int .i64 (v 2),.int .i64 (v 3),.int .i64 (v 4),.int .u32 (v 5),.int .u64 (v 6),.int .u32 (v 7),.int .i64 (v 8),.int .i64 (v 9),.slice a1 z1.length c1,.slice a2 z2.length c2] #[.int .i64 (v 1),.int .i64 (v 2),.int .i64 (v 3),.int .i64 (v 4),.int .u32 (v 5),.int .u64 (v 6),.int .u32 (v 7),.int .i64 (v 8),.int .i64 (v 9),.slice a1 z1.length c1,.slice a2 z2.length c2] (0,0) _ (qf aQ.out G) Tryz.underlying179 rfl (by kernel_rfl) (fun j _=>by rw[Nat.zero_add]) (hK _ _ BR rfl)
    ·intro A x W J G U I _ K hK;have ca:=gv J I 5 47;have bZ:=gv J I 7 49;clear I J;go_simp
     refine(show Calls Tryz.prog 143 #[.agg #[.int .i64 (v 1),.int .i64 (v 2),.int .i64 (v 3),.int .i64 (v 4),.int .u32 (v 5),.int .u64 (v 6),.int .u32 (v 7),.int .i64 (v 8),.int .i64 (v 9),.slice a1 z1.length c1,.slice a2 z2.length c2],.int .i64 ((k+1:Nat):Int)] W _ from qih av.out (.slice a1 z1.length c1) (.slice a2 z2.length c2) (k+1) (by omega) (by omega) W).mono ?_;rintro r w3 ⟨rfl,aC⟩
     exact hK _ _ aC rfl
   intro x W G U ac;clear ac;refine qt ?_;simp only[QG,Act.put,Ls];have bH:=hid (show RowB W g (QD big (v 7==0) v k) from(G.block g (by omega)).trans aB.out);have bC:=hid (show But g w6 W from aJ.out.trans ⟨G.os,G.tape,G.output,G.size,fun j hj _=>G.block j (by omega)⟩);clear c0 G U aB aQ aE aJ bE;go_wp2_with fail
   refine(qkp (QD big (v 7==0) v k) g M M (atB big (k+1)) (szB big (k+1)) ba.out.1 (by rw[ae,hM];exact ba.out.2) (by rw[ae,hM]) Nl (by omega) (v (k+1)) (av.out.le (k+1) (by omega) (by omega)) W bH.out).mono ?_;rintro r w4 ⟨rfl,X,V⟩;have aw:=hid X;have ay:=hid V;clear X V;go_wp2_with fail
   refine qw ?_;go_wp2
   refine⟨⟨k+1,rfl,by omega,?_,bC.out.trans ay.out⟩,by simp[intOf];omega⟩;have e:QD big (v 7==0) v (k+1)=Qn (QD big (v 7==0) v k) (atB big (k+1)) (qD (v (k+1)) (szB big (k+1))):=by rw[QD,if_neg (fun h=>h7 (by omega))]
   rw[e];exact aw.out
  obtain rfl:k=9:=by omega
  clear bj hk;have ar:=hid (show QV big v z1 z2=Qn (Qn (QD big (v 7==0) v 9) (2*S) z1) (3*S) z2 by rw[<-hS];rfl);have hE:(QD big (v 7==0) v 9).length=M:=ae.trans hM;obtain⟨E,a6⟩: ∃E,QD big (v 7==0) v 9=E:=⟨_,rfl⟩;rw[a6]at hE ar HW;clear aa hb ae a6;obtain⟨O,bd⟩:=Ex (2*S);obtain⟨Y,aT⟩:=Ex (3*S);rw[bd,aT]at ar;have e2:(M:Int) - 2*(S:Int)=(O:Int):=by omega
  have e3:(M:Int) - (S:Int)=(Y:Int):=by omega
  have aN:z1.length<=S:=by have:=aw.out;omega
  have aO:z2.length<=S:=by have:=ay.out;omega
  have bf:O+S<=M/\Y+S<=M/\O<M/\Y<M/\S<=16/\M<=64:=by omega
  have ai:=hid bf;have bi:=hid aN;have bb:=hid aO;have HE:=hid hE;have b6: ¬(M=O):=by omega
  have b9: ¬(M=Y):=by omega
  have k2:(O:Int)<=(M:Int):=by omega
  have k3:(Y:Int)<=(M:Int):=by omega
  have al:=hid au;have bV:o<wr.heap.size/\g<wr.heap.size:=by omega
  have ce:IntKind.i64.wrap (2*(S:Int))=2*(S:Int):=by rw[IntKind.wrap_i64];omega
  have b3:IntKind.i64.wrap (O:Int)=(O:Int):=by rw[IntKind.wrap_i64];omega
  have cc:IntKind.i64.wrap (Y:Int)=(Y:Int):=by rw[IntKind.wrap_i64];omega
  have bI:=hid (show Below o w wr from bF.out.trans (HB.out.below (by omega) (by omega)));clear bK bv aN aO bf bd aT hE au bx;go_upto_region 12 with(fail)
  refine qE (n:=8) (w0:=wr) (B:=wr.heap.size) [.v 53 (.slice (some ⟨g,0,none⟩) M M),.v 54 (.int .i64 M),.v 55 (.int .i64 S),.v 56 (.int .i64 (2*(S:Int))),.v 57 (.int .i64 O),.v 58 (.slice (some ⟨g,O,none⟩) (M - O) (M - O)),.z 59 o 9,.v 60 (.slice a1 z1.length c1)] trivial Br.drew Nl ?_ ?_
  ·repeat' (with_reducible first|exact qz|refine qx ?_ ?_)
   all_goals
    intro A x W J G U I D K hK;have a3:=J.2 3 (by decide);conv at a3=>rhs;whnf
    have af:=J.2 10 (by decide);conv at af=>rhs;whnf
    have a7:=J.2 7 (by decide);conv at a7=>rhs;whnf
    have a9:=J.2 9 (by decide);conv at a9=>rhs;whnf
    simp only[QS,yc]at D;clear I J;have y:=qf al.out G;have y0:W.cell? ⟨o,9,none⟩=some (.slice a1 z1.length c1):=qd y 9;have y3:o<W.heap.size:=by omega
    go_simp
    exact hK _ _ BR rfl
  intro x W G U ac;clear ac;refine qt ?_;simp only[QG,Act.put,Ls];have ao:Below o w W:=bI.out.trans (G.mono (by omega));have ah:=(bN.out.below (ag▸ao)).src;have a5:W.heap[g]? =some (.cells (E.map qp).toArray 5 (0,0)):=(G.block g (by omega)).trans HW.out;have aI:=hid (qf al.out G);have X:O+z1.length<=(E).length:=by have:=ai.out;have:=bi.out;have:=HE.out;omega
  have br:=hid X;have aM:=hid ao;refine wpList_copy_splice rfl _ _ _ _ rfl 5 Tryz.underlying24 (by rw[hi];simp[aP]) _ _ _ _ _ _ rfl rfl g O (E.map qp) 5 a5 (z1.map qp) (by rw[List.length_map];have:=ai.out;have:=bi.out;exact(Nat.min_eq_left (by omega)).symm) (fun h0=>⟨rfl,by
   rcases ah.2.2 with⟨-,h2⟩|⟨ad,c,e,h2⟩
   ·rw[List.length_map]at h0;omega
   ·simp only[Value.slice.injEq]at e;exact⟨ad,e.1,h2⟩⟩) (by rw[List.length_map,List.length_map];exact X) ah.2.1 g W Br Nl ?_
  intro V1 am Z;have bn:=hid (show RowB V1 g (Qn E O z1) from am.out.trans (by unfold splice Qn;simp[List.append_assoc]));have bs:=hid (show Below o w V1 from aM.out.trans (Z.mono (by omega)));have aK:=hid ((Z.block o (by omega)).trans aI.out);have bY:o<V1.heap.size/\g<V1.heap.size:=by have:=Z.size;omega
  clear ah a5 X am Z aI aM ao G U;go_wp2_with fail
  refine qw ?_;go_upto_region 13 with(fail)
  refine qE (n:=7) (w0:=V1) (B:=V1.heap.size) [.v 62 (.slice (some ⟨g,0,none⟩) M M),.v 63 (.int .i64 M),.v 64 (.int .i64 S),.v 65 (.int .i64 Y),.v 66 (.slice (some ⟨g,Y,none⟩) (M - Y) (M - Y)),.z 67 o 10,.v 68 (.slice a2 z2.length c2)] trivial Br.drew Nl ?_ ?_
  ·repeat' (with_reducible first|exact qz|refine qx ?_ ?_)
   all_goals
    intro A x W J G U I D K hK;have a3:=J.2 3 (by decide);conv at a3=>rhs;whnf
    have af:=J.2 10 (by decide);conv at af=>rhs;whnf
    have a7:=J.2 7 (by decide);conv at a7=>rhs;whnf
    have a9:=J.2 9 (by decide);conv at a9=>rhs;whnf
    simp only[QS,yc]at D;clear I J;have y:=qf aK.out G;have y0:W.cell? ⟨o,10,none⟩=some (.slice a2 z2.length c2):=qd y 10;have y3:o<W.heap.size:=by omega
    go_simp
    exact hK _ _ BR rfl
  have aY:(Qn E O z1).length=M:=by rw[Qq br.out];exact HE.out
  have bL:=hid aY;clear aY;intro x W G U ac;clear ac;refine qt ?_;simp only[QG,Act.put,Ls];have ap:Below o w W:=bs.out.trans (G.mono (by omega));have aL:=(bJ.out.below (ag▸ap)).src;have bc:W.heap[g]? =some (.cells ((Qn E O z1).map qp).toArray 5 (0,0)):=(G.block g (by omega)).trans bn.out;have aF:=hid (qf aK.out G);have V:Y+z2.length<=((Qn E O z1)).length:=by have:=ai.out;have:=bb.out;have:=bL.out;omega
  have bR:=hid V;have aA:=hid ap;refine wpList_copy_splice rfl _ _ _ _ rfl 5 Tryz.underlying24 (by rw[hi];simp[aP]) _ _ _ _ _ _ rfl rfl g Y ((Qn E O z1).map qp) 5 bc (z2.map qp) (by rw[List.length_map];have:=ai.out;have:=bb.out;exact(Nat.min_eq_left (by omega)).symm) (fun h0=>⟨rfl,by
   rcases aL.2.2 with⟨-,h2⟩|⟨ad,c,e,h2⟩
   ·rw[List.length_map]at h0;omega
   ·simp only[Value.slice.injEq]at e;exact⟨ad,e.1,h2⟩⟩) (by rw[List.length_map,List.length_map];exact V) aL.2.1 g W Br Nl ?_
  intro V2 am Z;have bq:=hid (show RowB V2 g (Qn (Qn E O z1) Y z2) from am.out.trans (by unfold splice Qn;simp[List.append_assoc]));have bt:=hid (show Below o w V2 from aA.out.trans (Z.mono (by omega)));have bS:=hid ((Z.block o (by omega)).trans aF.out);have bX:o<V2.heap.size/\g<V2.heap.size:=by have:=Z.size;omega
  clear aL bc V am Z aF aA ap G U;go_wp2_with fail
  refine qw ?_;go_wp2
  go_ret2
  have aG:=yC (big:=big) (v:=v) aw.out ay.out;have aC:(Qn (Qn E O z1) Y z2).length=M:=by rw[<-ar.out,aG,hM]
  refine⟨⟨_,rfl,by rw[List.length_map,aG];omega,.inr ⟨g,M,_,by rw[hM];rfl,by omega,bq.out,by omega,by have:=ai.out;unfold maxLen;omega,?_,?_⟩⟩,by rw[ag];exact bt.out⟩
  ·rw[List.size_toArray,List.length_map,aC];omega
  ·rw[<-ar.out];exact List.take_of_length_le (by rw[List.length_map,aG];omega)
theorem qhS (bs kz:List Int)(I:Int)(bv kv:Value)(w:World)(hB:Hold w bv bs)(hK:Hold w kv kz)(hl:bs.length=64)(ao:kz.length<=64):
  Calls Tryz.prog 107 #[.int .i64 1,bv,.int .i64 I,kv] w fun e w'=> ∃np p Y aq ar,e= .returned (.pointer (some ⟨np,0,none⟩))/\w.heap.size<=np/\w.heap.size<=p/\w'.heap[np]? =some (.cells (yz 1 I aq ar false 0 (.iface 281 (.pointer (some ⟨p,0,none⟩)))) 187 (0,0))/\Q6 true w' p Y (h0Z true bs) (yH 128 kz)/\(∀g,Y.ownBlock=some g->w.heap.size<=g)/\Below w.heap.size w w':=by
 obtain⟨i0,hi,aj,ag,ak⟩:=info_parts Qu;obtain⟨b0,aA⟩:=Ex w.heap.size;have G:=hB.src;have S:=hK.src;rw[hl]at G;have ap:=hid G;have av:=hid S;have aw:=hid hB.1;have au:=hid hK.1;have HL:=hid hl;clear G S hB hK hl;go_enter Tryz.func107,Tryz.ntmps107
 go_upto_region 2 with(first|((with_reducible show wpList _ _ _ (Oper.mk (some 13) _ _ _ _ _::_) _ _);refine Qb rfl _ _ _ rfl w w.heap.size rfl Br 5 i0 (.int .u8 0) 1 Tryz.underlying24 hi aj ag ak rfl _ 0 [] rfl (Wo _ _ _ _) bv 64 _ rfl ap.out (by unfold maxLen;omega) (by omega) ?_;intro v1 w1 o ad;have aa:=hid o;have O:=hid ad;clear o ad)|((with_reducible show wpList _ _ _ (Oper.mk (some 15) _ _ _ _ _::_) _ _);refine Qb rfl _ _ _ rfl w1 w1.heap.size rfl Br 5 i0 (.int .u8 0) 1 Tryz.underlying24 hi aj ag ak rfl _ 0 [] rfl (Wo _ _ _ _) kv kz.length _ rfl (av.out.below O.out) (by unfold maxLen;omega) (by omega) ?_;intro v2 r q al;obtain⟨a1,Z,c1,rfl⟩:=qr aa.out;obtain⟨a2,V,c2,rfl⟩:=qr q;have af:=hid q;have U:=hid al;clear q al))
 have G:=O.out.size;have S:=U.out.size;have J:Below r.heap.size r (r.alloc (.cells (yz 1 I (.slice a1 Z c1) (.slice a2 V c2) false 0 .nilIface) 187)):=Br.alloc Nl _;have ac:=Wn r (.cells (yz 1 I (.slice a1 Z c1) (.slice a2 V c2) false 0 .nilIface) 187);have o:=aa.out;have q:=af.out;simp only[List.nil_append,Nat.zero_add]at o q;have o:=qi o (fun g _ hg=>U.out.block g hg);have ai:=(Qf o aw.out).below J;have ah:=(Qf q au.out).below J;have an:(Value.slice a2 V c2).ownBlock≠some r.heap.size:=fun e=>by
  rcases q.2 with⟨h, -⟩|⟨g,az,ay,h,h1,X, -⟩
  ·rw[h]at e;cases e
  ·rw[h]at e;simp only[Value.ownBlock,Option.some.injEq]at e;have:=(Ai X).1;omega
 have ae:=qgW bs kz r.heap.size I 0 false (.slice a1 Z c1) (.slice a2 V c2) .nilIface _ ac ai ah HL.out ao an;have ab:Below w.heap.size w (r.alloc (.cells (yz 1 I (.slice a1 Z c1) (.slice a2 V c2) false 0 .nilIface) 187)):=O.out.trans ((U.out.trans (J.mono S)).mono G);have am:=hid ae;have D:=hid ab;clear ae ab J ac o q ai ah an aa af O U;go_wp2_with fail
 refine am.out.mono ?_;rintro e w4 ⟨rfl,⟨p,Y,h1,X,h3,h4⟩,h5⟩;have HF:=hid (show w.heap.size<=p/\w4.heap[r.heap.size]? =some (.cells (yz 1 I (.slice a1 Z c1) (.slice a2 V c2) false 0 (.iface 281 (.pointer (some ⟨p,0,none⟩)))) 187 (0,0))/\Q6 true w4 p Y (h0Z true bs) (yH 128 kz)/\(∀g,Y.ownBlock=some g->w.heap.size<=g)/\Below w.heap.size w w4 from⟨by have:=D.out.size;omega,X,h3,fun g hg=>by have:=h4 g hg;have:=D.out.size;omega,D.out.trans (h5.below D.out.size (fun k hk=>by omega))⟩);clear h1 X h3 h4 h5 am D;have ax:w.heap.size<=r.heap.size:=by omega
 go_wp2
 go_ret
 obtain⟨h1,X,h3,h4,h5⟩:=HF.out;exact⟨_,p,Y,_,_,rfl,ax,h1,X,h3,h4,h5⟩
theorem qgs (bs kz:List Int)(I:Int)(bv kv:Value)(w:World)(hB:Hold w bv bs)(hK:Hold w kv kz)(hl:bs.length=32)(ao:kz.length<=32):
  Calls Tryz.prog 107 #[.int .i64 2,bv,.int .i64 I,kv] w fun e w'=> ∃np p Y aq ar,e= .returned (.pointer (some ⟨np,0,none⟩))/\w.heap.size<=np/\w.heap.size<=p/\w'.heap[np]? =some (.cells (yz 2 I aq ar false 0 (.iface 291 (.pointer (some ⟨p,0,none⟩)))) 187 (0,0))/\Q6 false w' p Y (h0Z false bs) (yH 64 kz)/\(∀g,Y.ownBlock=some g->w.heap.size<=g)/\Below w.heap.size w w':=by
 obtain⟨i0,hi,aj,ag,ak⟩:=info_parts Qu;obtain⟨b0,aA⟩:=Ex w.heap.size;have G:=hB.src;have S:=hK.src;rw[hl]at G;have ap:=hid G;have av:=hid S;have aw:=hid hB.1;have au:=hid hK.1;have HL:=hid hl;clear G S hB hK hl;go_enter Tryz.func107,Tryz.ntmps107
 go_upto_region 2 with(first|((with_reducible show wpList _ _ _ (Oper.mk (some 13) _ _ _ _ _::_) _ _);refine Qb rfl _ _ _ rfl w w.heap.size rfl Br 5 i0 (.int .u8 0) 1 Tryz.underlying24 hi aj ag ak rfl _ 0 [] rfl (Wo _ _ _ _) bv 32 _ rfl ap.out (by unfold maxLen;omega) (by omega) ?_;intro v1 w1 o ad;have aa:=hid o;have O:=hid ad;clear o ad)|((with_reducible show wpList _ _ _ (Oper.mk (some 15) _ _ _ _ _::_) _ _);refine Qb rfl _ _ _ rfl w1 w1.heap.size rfl Br 5 i0 (.int .u8 0) 1 Tryz.underlying24 hi aj ag ak rfl _ 0 [] rfl (Wo _ _ _ _) kv kz.length _ rfl (av.out.below O.out) (by unfold maxLen;omega) (by omega) ?_;intro v2 r q al;obtain⟨a1,Z,c1,rfl⟩:=qr aa.out;obtain⟨a2,V,c2,rfl⟩:=qr q;have af:=hid q;have U:=hid al;clear q al))
 have G:=O.out.size;have S:=U.out.size;have J:Below r.heap.size r (r.alloc (.cells (yz 2 I (.slice a1 Z c1) (.slice a2 V c2) false 0 .nilIface) 187)):=Br.alloc Nl _;have ac:=Wn r (.cells (yz 2 I (.slice a1 Z c1) (.slice a2 V c2) false 0 .nilIface) 187);have o:=aa.out;have q:=af.out;simp only[List.nil_append,Nat.zero_add]at o q;have o:=qi o (fun g _ hg=>U.out.block g hg);have ai:=(Qf o aw.out).below J;have ah:=(Qf q au.out).below J;have an:(Value.slice a2 V c2).ownBlock≠some r.heap.size:=fun e=>by
  rcases q.2 with⟨h, -⟩|⟨g,az,ay,h,h1,X, -⟩
  ·rw[h]at e;cases e
  ·rw[h]at e;simp only[Value.ownBlock,Option.some.injEq]at e;have:=(Ai X).1;omega
 have ae:=qfF bs kz r.heap.size I 0 false (.slice a1 Z c1) (.slice a2 V c2) .nilIface _ ac ai ah HL.out ao an;have ab:Below w.heap.size w (r.alloc (.cells (yz 2 I (.slice a1 Z c1) (.slice a2 V c2) false 0 .nilIface) 187)):=O.out.trans ((U.out.trans (J.mono S)).mono G);have am:=hid ae;have D:=hid ab;clear ae ab J ac o q ai ah an aa af O U;go_wp2_with fail
 refine am.out.mono ?_;rintro e w4 ⟨rfl,⟨p,Y,h1,X,h3,h4⟩,h5⟩;have HF:=hid (show w.heap.size<=p/\w4.heap[r.heap.size]? =some (.cells (yz 2 I (.slice a1 Z c1) (.slice a2 V c2) false 0 (.iface 291 (.pointer (some ⟨p,0,none⟩)))) 187 (0,0))/\Q6 false w4 p Y (h0Z false bs) (yH 64 kz)/\(∀g,Y.ownBlock=some g->w.heap.size<=g)/\Below w.heap.size w w4 from⟨by have:=D.out.size;omega,X,h3,fun g hg=>by have:=h4 g hg;have:=D.out.size;omega,D.out.trans (h5.below D.out.size (fun k hk=>by omega))⟩);clear h1 X h3 h4 h5 am D;have ax:w.heap.size<=r.heap.size:=by omega
 go_wp2
 go_ret
 obtain⟨h1,X,h3,h4,h5⟩:=HF.out;exact⟨_,p,Y,_,_,rfl,ax,h1,X,h3,h4,h5⟩
def Yf (k:Int)(bv kv:Value)(la:Bool)(o:Int)(dv:Value):Array Value:= #[.int .i64 k,bv,kv,.bool la,.int .i64 o,dv]
def YN (bs kz:List Int):Bool:=decide (kz.length≠0/\(kz.length:Int)≠qo bs 1)
theorem qaF (o kz:List Int):YN o kz=(((kz.length:Int) != 0)&&((kz.length:Int) != qo o 1)):=by
 unfold YN;rw[Bool.eq_iff_iff];simp only[decide_eq_true_eq,Bool.and_eq_true,bne_iff_ne,ne_eq];omega
theorem qea {big:Bool}{kz:List Int}(h:okD big false o)(q:YN o kz=false):kz.length<=mB big:=by
 unfold YN at q;have r:=of_decide_eq_false q;have D:0<=qo o 1/\qo o 1<=(mB big:Nat):=h.2.2.2.2.1;omega
def Jz (big:Bool)(bs kz:List Int)(la:Bool)(o:Int)(ds:List Int):List Int:=(Zc big (h0Z big bs) (yH (bB big) kz++ds) la).take o.toNat
def qcC (big:Bool)(bs kz:List Int)(la:Bool)(o:Int)(ds:List Int)(w:World)(e:Ending)(w':World):Prop:=
 (∃v,e= .returned (.tuple #[v,.int .i64 0])/\Fresh w.heap.size w' v (Jz big bs kz la o ds))/\Below w.heap.size w w'
theorem qhg {big:Bool}{w:World}{J:Value}{I:List Int}(h:Q6 big w p J I r)(G:But q w w')(D:w.heap[q]? =some (.cells c T fr))(U:T≠287)(S:T≠295)(O:T≠5):Q6 big w' p J I r:=by
 refine⟨?_,YI h.2 G D O⟩;rw[G.block p (Ai h.1).1 ?_];exact h.1;rintro rfl
 have o:=h.1;rw[D]at o;simp only[Option.some.injEq,Obj.cells.injEq]at o
 cases big
 ·exact S o.2.1
 ·exact U o.2.1
theorem qbg {big:Bool}{w:World}{o:Value}{D:List Int}(h:Q6 big w p o D r)(I:w.heap[q]? =some (.cells c T fr))(G:T≠5):o.ownBlock≠some q:=fun e=>qd3 h.2 I G e.symm
theorem qic (I kz ds:List Int)(la:Bool)(o:Int)(U kv S:Value)(w:World)(hB:Hold w U I)(hK:Hold w kv kz)(hD:Hold w S ds)(aD:(ds.length:Int)<=140737488355200)(aC:okD true false I)(an:YN I kz=false)(ho:1<=o/\o<=64):
  Calls Tryz.prog 64 #[.agg (Yf 1 U kv la o S)] w fun e w'=>qcC true I kz la o ds w e w':=by
 obtain⟨r,O⟩:=Ex w.heap.size;obtain⟨ka,kc,rfl,be,bc⟩:=hK.slice;have aj:Below r w (w.alloc (.cells #[.int .i64 1,U,.slice ka kz.length kc,.bool la,.int .i64 o,S] 73)):=by rw[<-O];exact Br.alloc Nl _
 have ad:=Wn w (.cells #[.int .i64 1,U,.slice ka kz.length kc,.bool la,.int .i64 o,S] 73);rw[O]at ad;have af:=hB.below (O▸aj);have HB:=hid hB;have HK:=hid hK;have HD:=hid hD;have aG:=hid aD;have ar:=hid aC;have aN:=hid an;have HO:=hid ho;clear hB hK hD aD be bc aC an ho;show Calls _ _ #[.agg #[.int .i64 1,U,.slice ka kz.length kc,.bool la,.int .i64 o,S]] _ _
 go_enter Tryz.func64,Tryz.ntmps64
 go_wp2_with fail
 generalize w.alloc (.cells #[.int .i64 1,U,.slice ka kz.length kc,.bool la,.int .i64 o,S] 73)=wA at*;refine(qdu true I U wA af.holds8 af.1 (fun a n c e=>by obtain⟨a',c',e',h1,h2⟩:=af.slice;rw[e']at e;simp only[Value.slice.injEq]at e;obtain⟨-,rfl,rfl⟩:=e;exact⟨h1,h2⟩) ar.out).mono ?_;rintro e w1 ⟨⟨fo,dp,lf,aS,nd,aH,sa,pe,rfl,bI,bD⟩,ac⟩;obtain⟨ky,ah⟩:=Ex (qo I 1);obtain⟨dg,a7⟩:=Ex (qo I 0);rw[ah,a7];unfold parV;have ax:=qf ad ac;have bk:=ac.size;have bd:r<wA.heap.size:=(Ai ad).1;have aZ:Below r w w1:=aj.trans (ac.mono (by omega));have bb:=hid ax;have a4:=hid aZ;clear ax aZ ac aj ad af;go_upto_if 24 with((with_reducible show wpList _ _ _ (Oper.mk none (Op.store 179 _ _) _ _ _ _::_) _ _);refine wpList_store_row rfl 179 _ _ rfl w1.heap.size #[.int .i64 dg,.int .i64 ky,.int .i64 fo,.int .i64 dp,.int .u32 lf,.int .u64 aS,.int .u32 0,.int .i64 nd,.int .i64 aH,sa,pe] rfl rfl 179 _ (Wn _ _) (by kernel_rfl) rfl (by simp only[List.all_toArray,List.all_cons,List.all_nil,bI,bD];rfl) ?_)
 refine qm ?_;intro W hW;obtain⟨p4,aw⟩:=Ex w1.heap.size;have ag:W.heap[p4]? =some (.cells #[.int .i64 dg,.int .i64 ky,.int .i64 fo,.int .i64 dp,.int .u32 lf,.int .u64 aS,.int .u32 0,.int .i64 nd,.int .i64 aH,sa,pe] 179 (0,0)):=by rw[hW,<-aw];exact setRow_heap _ _ _ _ _ _ (Wn _ _)
 have Y:W.heap[r]? =some (.cells #[.int .i64 1,U,.slice ka kz.length kc,.bool la,.int .i64 o,S] 73 (0,0)):=by rw[hW];exact(setRow_other (w1.alloc _) _ _ _ (by omega)).trans ((Bh _ _ _ (by omega)).trans bb.out)
 have ao:Below r w W:=by rw[hW];exact below_setRow (a4.out.alloc (by omega) _) (by omega) _
 rw[aw];have bN:r<p4:=by omega
 clear hW aw bb a4 bk bd;have bl:p4<W.heap.size:=(Ai ag).1;have bw:=HB.out.below (O▸ao);have a8:=hid Y;have ab:=hid ao;have bt:W.cell? ⟨p4,0,none⟩=some (.int .i64 dg):=qd ag 0;have bJ:W.cell? ⟨p4,1,none⟩=some (.int .i64 ky):=qd ag 1;have bA:W.cell? ⟨r,0,none⟩=some (.int .i64 1):=qd Y 0;have bz:W.cell? ⟨r,1,none⟩=some U:=qd Y 1;have bx:W.cell? ⟨r,2,none⟩=some (.slice ka kz.length kc):=qd Y 2;have bh:r<W.heap.size:=(Ai Y).1;obtain⟨q0,aY⟩: ∃q,((kz.length:Int) != 0)=q:=⟨_,rfl⟩;obtain⟨q1,aU⟩: ∃q,((kz.length:Int) != ky)=q:=⟨_,rfl⟩;have aQ:(q0&&q1)=false:=by rw[<-aY,<-aU,<-ah];exact(qaF I kz).symm.trans aN.out
 have bo:kz.length<=64:=qea ar.out aN.out;clear ag Y ao ah a7 bw;go_upto_region 8 with(fail)
 go_cut [46] from 7 (fun u W'=>u= .bool false/\W=W')
 case first=>
  cases q0<;>cases q1<;>first|(exfalso;cases aQ;done)|skip
  all_goals
   go_wp2
   go_meet
   case rel=>exact⟨rfl,by trivial⟩
 case rest=>
  clear aY aU bJ aQ;obtain⟨rfl,rfl⟩:=hcut;have aA:=qhS I kz dg U (.slice ka kz.length kc) W (HB.out.below (O▸ab.out)) (HK.out.below (O▸ab.out)) ar.out.1 bo;have aM:=hid aA;clear aA;go_wp2_with fail
  refine aM.out.mono ?_;rintro e J ⟨G,p,hv,aE,aX,rfl,m1,m2,m3,m4,m5,m6⟩;have aq:=qf a8.out m6;have az:Below r w J:=ab.out.trans (m6.mono (by omega));have bm:=m6.size;have bC:J.cell? ⟨r,3,none⟩=some (.bool la):=qd aq 3;have bG:J.cell? ⟨G,4,none⟩=some (.bool false):=qd m3 4;have bK:=frozen_of_row J G 4 _ _ m3;have ae:r<J.heap.size:=by omega
  have bi:G<J.heap.size:=(Ai m3).1;have bF:r<G/\r<p:=by omega
  obtain⟨bL,bO⟩:=bF;have Z:But G J (J.setCell ⟨G,4,none⟩ (.bool la)):=(But.refl G J).set 4 _;have aT:=j9 (b:=la) m3;have aO:=qhg m4 Z m3 (by decide) (by decide) (by decide);have aI:=(Z.block r ae (by omega)).trans aq;have aF:Below r w (J.setCell ⟨G,4,none⟩ (.bool la)):=az.trans (Z.below (by omega) (by omega));have bf:p≠G:=fun e=>by have h1:=m4.1;rw[e,m3]at h1;simp only[cond,Option.some.injEq,Obj.cells.injEq]at h1;exact absurd h1.2.1 (by decide)
  have aJ: ∀g,hv.ownBlock=some g->r<g:=fun g hg=>by have:=m5 g hg;omega
  have a3:=hid aT;have ak:=hid aO;have ay:=hid aI;have ai:=hid aF;have ap:=hid aJ;have aB:(J.setCell ⟨G,4,none⟩ (.bool la)).heap.size=J.heap.size:=by simp[World.setCell]
  rw[<-aB]at bi ae;clear aq az m1 m2 m3 m4 m5 aJ m6 Z aT aO aI aF bm aB a8 ab aM bA bz bx bh bt bl;go_upto_region 12 with(fail)
  generalize J.setCell ⟨G,4,none⟩ (.bool la)=W4 at*;clear bC bG bK J W;refine yt (fun f W=>W.heap[G]? =some (.cells (yz 1 dg aE aX la 0 (.iface 281 (.pointer (some ⟨p,0,none⟩)))) 187 (0,0))/\W.heap[r]? =some (.cells #[.int .i64 1,U,.slice ka kz.length kc,.bool la,.int .i64 o,S] 73 (0,0))/\(f=false->Below W4.heap.size W4 W)/\(f=true->Spare (Zj p hv) W4 W/\ ∃aa,Q6 true W p aa (h0Z true I) (yH 128 kz++ds))) 6 [.z 61 G 0,.z 62 G 0,.z 63 G 6,.v 64 (.iface 281 (.pointer (some ⟨p,0,none⟩))),.z 65 r 5,.v 66 S,.p 67 (fun _ _=>True)] (by exact⟨kW,trivial⟩) ⟨a3.out,ay.out,fun _=>Br.drew,fun h=>(by cases h)⟩ (fun f W W' h hb=>⟨qf h.1 hb,qf h.2.1 hb,fun e=>(h.2.2.1 e).trans (hb.mono (h.2.2.1 e).size),fun e=>by obtain⟨h1,aa,h2⟩:=h.2.2.2 e;exact⟨h1.trans (Spare.of_below _ hb) (fun _ _ h=>h),aa,Yb h2 hb⟩⟩) ?_ ?_ ?_
  ·repeat' (with_reducible first|exact qz|refine qx ?_ ?_)
   all_goals try
    refine .inr ?_;intro A x W f hA V hf X D K hK;have a6:=hA.2 6 (by decide);conv at a6=>rhs;whnf
    have a1:=hA.2 1 (by decide);conv at a1=>rhs;whnf
    simp only[QS,yc]at D;clear X hA;first
    | go_simp
      exact hK _ _ BR rfl
    | have y0:W.cell? ⟨G,6,none⟩=some (.iface 281 (.pointer (some ⟨p,0,none⟩))):=qd V.1 6
      have y1:W.cell? ⟨r,5,none⟩=some S:=qd V.2.1 5;go_simp
      exact hK _ _ BR rfl
   any_goals exact .inl rfl
  ·intro A x W hA V X K hK;have bR:=gw hA X 3 64;have bP:=gw hA X 5 66;clear X hA;have hB:=V.2.2.1 rfl;go_simp
   refine YS (f:=265) (by kernel_rfl) ?_;go_simp
   have bp:Hold W S ds:=HD.out.below (O▸ai.out.trans (hB.mono (by omega)));refine(qbE (h0Z true I) (yH 128 kz) ds (Q4 true I) (zD HK.out.1) p hv S W (Yb ak.out hB) bp (fun aL b hb=>⟨fun e=>by have:=Y7 HD.out aL hb;omega,fun e=>by have:=Y7 HD.out aL hb;have:=ap.out b e;omega⟩) (by have:=zC (n:=128) (key:=kz) (by omega);have:=aG.out;omega)).mono ?_;rintro e w' ⟨rfl,⟨aa,bj, -⟩,al⟩
   refine hK _ _ (fun h=>by cases h) ⟨(al.block G (Ai V.1).1 ⟨fun e=>bf e.symm,qbg (Yb ak.out hB) V.1 (by decide)⟩).trans V.1,(al.block r (Ai V.2.1).1 ⟨by omega,fun e=>by have:=ap.out r e;omega⟩).trans V.2.1,fun h=>(by cases h),fun _=>⟨(Spare.of_below _ hB).trans al (fun _ _ h=>h),aa,bj⟩⟩ ⟨.inr (fun _ h=>h),.inr (fun _ h=>h),.inr (fun _ h=>h),.inr (fun _ h=>h),.inr (fun _ h=>h),.inr (fun _ h=>h),.inl rfl,trivial⟩ trivial
  intro x W V bg;obtain⟨a5, -⟩:=bg;change ((fun _ _=>True)) (x 67) W at a5
  simp only[QG,Act.put,Ls];obtain⟨a9,av, -,h9⟩:=V;obtain⟨ba,bn,aP⟩:=h9 rfl;have aK:Below r w W:=ai.out.trans (ba.below (by omega) (fun k hk=>⟨by omega,fun e=>by have:=ap.out k e;omega⟩));have bQ:W.cell? ⟨r,4,none⟩=some (.int .i64 o):=qd av 4;have bM:r<W.heap.size:=(Ai av).1;have bu:=hid a9;have bE:=hid aP;have bq:=hid aK;clear a9 av h9 ba aP aK a5 a3 ak ay ai;go_wp2_with fail
  have ho:=HO.out;obtain⟨m,hm⟩: ∃m:Nat,o=(m:Int):=⟨o.toNat,by omega⟩;have au:1<=m/\m<=64:=by omega
  clear ho HO;subst hm;have am:(((yH 128 kz)++ds).length:Int)<=281474976710656:=by
   have:=zC (n:=128) (key:=kz) (by omega)
   have:=aG.out
   rw[List.length_append];omega
  have aW: ∀z∈yH 128 kz++ds,0<=z/\z<=255:=fun z hz=>by
   rcases List.mem_append.1 hz with hz|hz
   ·exact zD HK.out.1 z hz
   ·exact HD.out.1 z hz
  refine(qd6 (h0Z true I) (yH 128 kz++ds) (Q4 true I) aW G p m dg 0 la aE aX bn _ bu.out bE.out am au.1 au.2).mono ?_;rintro e w5 ⟨⟨v5,rfl,aV⟩,aR⟩;have bH:=hid (show Fresh w.heap.size w5 v5 (Jz true I kz la (m:Nat) ds) from by have h:=aV.le (b':=w.heap.size) (by omega);unfold Jz;exact h);have br:=hid (show Below r w w5 from bq.out.trans (aR.mono (by omega)));clear aV aR am aW au;go_wp2
  go_ret2
  exact⟨⟨_,rfl,bH.out⟩,by rw[O];exact br.out⟩
theorem qgQ (I kz ds:List Int)(la:Bool)(o:Int)(U kv S:Value)(w:World)(hB:Hold w U I)(hK:Hold w kv kz)(hD:Hold w S ds)(aD:(ds.length:Int)<=140737488355200)(aC:okD false false I)(an:YN I kz=false)(ho:1<=o/\o<=32):
  Calls Tryz.prog 64 #[.agg (Yf 2 U kv la o S)] w fun e w'=>qcC false I kz la o ds w e w':=by
 obtain⟨r,O⟩:=Ex w.heap.size;obtain⟨ka,kc,rfl,be,bc⟩:=hK.slice;have aj:Below r w (w.alloc (.cells #[.int .i64 2,U,.slice ka kz.length kc,.bool la,.int .i64 o,S] 73)):=by rw[<-O];exact Br.alloc Nl _
 have ad:=Wn w (.cells #[.int .i64 2,U,.slice ka kz.length kc,.bool la,.int .i64 o,S] 73);rw[O]at ad;have af:=hB.below (O▸aj);have HB:=hid hB;have HK:=hid hK;have HD:=hid hD;have aG:=hid aD;have ar:=hid aC;have aN:=hid an;have HO:=hid ho;clear hB hK hD aD be bc aC an ho;show Calls _ _ #[.agg #[.int .i64 2,U,.slice ka kz.length kc,.bool la,.int .i64 o,S]] _ _
 go_enter Tryz.func64,Tryz.ntmps64
 go_wp2_with fail
 generalize w.alloc (.cells #[.int .i64 2,U,.slice ka kz.length kc,.bool la,.int .i64 o,S] 73)=wA at*;refine(qdu false I U wA af.holds8 af.1 (fun a n c e=>by obtain⟨a',c',e',h1,h2⟩:=af.slice;rw[e']at e;simp only[Value.slice.injEq]at e;obtain⟨-,rfl,rfl⟩:=e;exact⟨h1,h2⟩) ar.out).mono ?_;rintro e w1 ⟨⟨fo,dp,lf,aS,nd,aH,sa,pe,rfl,bI,bD⟩,ac⟩;obtain⟨ky,ah⟩:=Ex (qo I 1);obtain⟨dg,a7⟩:=Ex (qo I 0);rw[ah,a7];unfold parV;have ax:=qf ad ac;have bk:=ac.size;have bd:r<wA.heap.size:=(Ai ad).1;have aZ:Below r w w1:=aj.trans (ac.mono (by omega));have bb:=hid ax;have a4:=hid aZ;clear ax aZ ac aj ad af;go_upto_if 24 with((with_reducible show wpList _ _ _ (Oper.mk none (Op.store 179 _ _) _ _ _ _::_) _ _);refine wpList_store_row rfl 179 _ _ rfl w1.heap.size #[.int .i64 dg,.int .i64 ky,.int .i64 fo,.int .i64 dp,.int .u32 lf,.int .u64 aS,.int .u32 0,.int .i64 nd,.int .i64 aH,sa,pe] rfl rfl 179 _ (Wn _ _) (by kernel_rfl) rfl (by simp only[List.all_toArray,List.all_cons,List.all_nil,bI,bD];rfl) ?_)
 refine qm ?_;intro W hW;obtain⟨p4,aw⟩:=Ex w1.heap.size;have ag:W.heap[p4]? =some (.cells #[.int .i64 dg,.int .i64 ky,.int .i64 fo,.int .i64 dp,.int .u32 lf,.int .u64 aS,.int .u32 0,.int .i64 nd,.int .i64 aH,sa,pe] 179 (0,0)):=by rw[hW,<-aw];exact setRow_heap _ _ _ _ _ _ (Wn _ _)
 have Y:W.heap[r]? =some (.cells #[.int .i64 2,U,.slice ka kz.length kc,.bool la,.int .i64 o,S] 73 (0,0)):=by rw[hW];exact(setRow_other (w1.alloc _) _ _ _ (by omega)).trans ((Bh _ _ _ (by omega)).trans bb.out)
 have ao:Below r w W:=by rw[hW];exact below_setRow (a4.out.alloc (by omega) _) (by omega) _
 rw[aw];have bN:r<p4:=by omega
 clear hW aw bb a4 bk bd;have bl:p4<W.heap.size:=(Ai ag).1;have bw:=HB.out.below (O▸ao);have a8:=hid Y;have ab:=hid ao;have bt:W.cell? ⟨p4,0,none⟩=some (.int .i64 dg):=qd ag 0;have bJ:W.cell? ⟨p4,1,none⟩=some (.int .i64 ky):=qd ag 1;have bA:W.cell? ⟨r,0,none⟩=some (.int .i64 2):=qd Y 0;have bz:W.cell? ⟨r,1,none⟩=some U:=qd Y 1;have bx:W.cell? ⟨r,2,none⟩=some (.slice ka kz.length kc):=qd Y 2;have bh:r<W.heap.size:=(Ai Y).1;obtain⟨q0,aY⟩: ∃q,((kz.length:Int) != 0)=q:=⟨_,rfl⟩;obtain⟨q1,aU⟩: ∃q,((kz.length:Int) != ky)=q:=⟨_,rfl⟩;have aQ:(q0&&q1)=false:=by rw[<-aY,<-aU,<-ah];exact(qaF I kz).symm.trans aN.out
 have bo:kz.length<=32:=qea ar.out aN.out;clear ag Y ao ah a7 bw;go_upto_region 8 with(fail)
 go_cut [46] from 7 (fun u W'=>u= .bool false/\W=W')
 case first=>
  cases q0<;>cases q1<;>first|(exfalso;cases aQ;done)|skip
  all_goals
   go_wp2
   go_meet
   case rel=>exact⟨rfl,by trivial⟩
 case rest=>
  clear aY aU bJ aQ;obtain⟨rfl,rfl⟩:=hcut;have aA:=qgs I kz dg U (.slice ka kz.length kc) W (HB.out.below (O▸ab.out)) (HK.out.below (O▸ab.out)) ar.out.1 bo;have aM:=hid aA;clear aA;go_wp2_with fail
  refine aM.out.mono ?_;rintro e J ⟨G,p,hv,aE,aX,rfl,m1,m2,m3,m4,m5,m6⟩;have aq:=qf a8.out m6;have az:Below r w J:=ab.out.trans (m6.mono (by omega));have bm:=m6.size;have bC:J.cell? ⟨r,3,none⟩=some (.bool la):=qd aq 3;have bG:J.cell? ⟨G,4,none⟩=some (.bool false):=qd m3 4;have bK:=frozen_of_row J G 4 _ _ m3;have ae:r<J.heap.size:=by omega
  have bi:G<J.heap.size:=(Ai m3).1;have bF:r<G/\r<p:=by omega
  obtain⟨bL,bO⟩:=bF;have Z:But G J (J.setCell ⟨G,4,none⟩ (.bool la)):=(But.refl G J).set 4 _;have aT:=j9 (b:=la) m3;have aO:=qhg m4 Z m3 (by decide) (by decide) (by decide);have aI:=(Z.block r ae (by omega)).trans aq;have aF:Below r w (J.setCell ⟨G,4,none⟩ (.bool la)):=az.trans (Z.below (by omega) (by omega));have bf:p≠G:=fun e=>by have h1:=m4.1;rw[e,m3]at h1;simp only[cond,Option.some.injEq,Obj.cells.injEq]at h1;exact absurd h1.2.1 (by decide)
  have aJ: ∀g,hv.ownBlock=some g->r<g:=fun g hg=>by have:=m5 g hg;omega
  have a3:=hid aT;have ak:=hid aO;have ay:=hid aI;have ai:=hid aF;have ap:=hid aJ;have aB:(J.setCell ⟨G,4,none⟩ (.bool la)).heap.size=J.heap.size:=by simp[World.setCell]
  rw[<-aB]at bi ae;clear aq az m1 m2 m3 m4 m5 aJ m6 Z aT aO aI aF bm aB a8 ab aM bA bz bx bh bt bl;go_upto_region 12 with(fail)
  generalize J.setCell ⟨G,4,none⟩ (.bool la)=W4 at*;clear bC bG bK J W;refine yt (fun f W=>W.heap[G]? =some (.cells (yz 2 dg aE aX la 0 (.iface 291 (.pointer (some ⟨p,0,none⟩)))) 187 (0,0))/\W.heap[r]? =some (.cells #[.int .i64 2,U,.slice ka kz.length kc,.bool la,.int .i64 o,S] 73 (0,0))/\(f=false->Below W4.heap.size W4 W)/\(f=true->Spare (Zj p hv) W4 W/\ ∃aa,Q6 false W p aa (h0Z false I) (yH 64 kz++ds))) 6 [.z 61 G 0,.z 62 G 0,.z 63 G 6,.v 64 (.iface 291 (.pointer (some ⟨p,0,none⟩))),.z 65 r 5,.v 66 S,.p 67 (fun _ _=>True)] (by exact⟨kW,trivial⟩) ⟨a3.out,ay.out,fun _=>Br.drew,fun h=>(by cases h)⟩ (fun f W W' h hb=>⟨qf h.1 hb,qf h.2.1 hb,fun e=>(h.2.2.1 e).trans (hb.mono (h.2.2.1 e).size),fun e=>by obtain⟨h1,aa,h2⟩:=h.2.2.2 e;exact⟨h1.trans (Spare.of_below _ hb) (fun _ _ h=>h),aa,Yb h2 hb⟩⟩) ?_ ?_ ?_
  ·repeat' (with_reducible first|exact qz|refine qx ?_ ?_)
   all_goals try
    refine .inr ?_;intro A x W f hA V hf X D K hK;have a6:=hA.2 6 (by decide);conv at a6=>rhs;whnf
    have a1:=hA.2 1 (by decide);conv at a1=>rhs;whnf
    simp only[QS,yc]at D;clear X hA;first
    | go_simp
      exact hK _ _ BR rfl
    | have y0:W.cell? ⟨G,6,none⟩=some (.iface 291 (.pointer (some ⟨p,0,none⟩))):=qd V.1 6
      have y1:W.cell? ⟨r,5,none⟩=some S:=qd V.2.1 5;go_simp
      exact hK _ _ BR rfl
   any_goals exact .inl rfl
  ·intro A x W hA V X K hK;have bR:=gw hA X 3 64;have bP:=gw hA X 5 66;clear X hA;have hB:=V.2.2.1 rfl;go_simp
   refine YS (f:=271) (by kernel_rfl) ?_;go_simp
   have bp:Hold W S ds:=HD.out.below (O▸ai.out.trans (hB.mono (by omega)));refine(qaY (h0Z false I) (yH 64 kz) ds (Q4 false I) (zD HK.out.1) p hv S W (Yb ak.out hB) bp (fun aL b hb=>⟨fun e=>by have:=Y7 HD.out aL hb;omega,fun e=>by have:=Y7 HD.out aL hb;have:=ap.out b e;omega⟩) (by have:=zC (n:=64) (key:=kz) (by omega);have:=aG.out;omega)).mono ?_;rintro e w' ⟨rfl,⟨aa,bj, -⟩,al⟩
   refine hK _ _ (fun h=>by cases h) ⟨(al.block G (Ai V.1).1 ⟨fun e=>bf e.symm,qbg (Yb ak.out hB) V.1 (by decide)⟩).trans V.1,(al.block r (Ai V.2.1).1 ⟨by omega,fun e=>by have:=ap.out r e;omega⟩).trans V.2.1,fun h=>(by cases h),fun _=>⟨(Spare.of_below _ hB).trans al (fun _ _ h=>h),aa,bj⟩⟩ ⟨.inr (fun _ h=>h),.inr (fun _ h=>h),.inr (fun _ h=>h),.inr (fun _ h=>h),.inr (fun _ h=>h),.inr (fun _ h=>h),.inl rfl,trivial⟩ trivial
  intro x W V bg;obtain⟨a5, -⟩:=bg;change ((fun _ _=>True)) (x 67) W at a5
  simp only[QG,Act.put,Ls];obtain⟨a9,av, -,h9⟩:=V;obtain⟨ba,bn,aP⟩:=h9 rfl;have aK:Below r w W:=ai.out.trans (ba.below (by omega) (fun k hk=>⟨by omega,fun e=>by have:=ap.out k e;omega⟩));have bQ:W.cell? ⟨r,4,none⟩=some (.int .i64 o):=qd av 4;have bM:r<W.heap.size:=(Ai av).1;have bu:=hid a9;have bE:=hid aP;have bq:=hid aK;clear a9 av h9 ba aP aK a5 a3 ak ay ai;go_wp2_with fail
  have ho:=HO.out;obtain⟨m,hm⟩: ∃m:Nat,o=(m:Int):=⟨o.toNat,by omega⟩;have au:1<=m/\m<=32:=by omega
  clear ho HO;subst hm;have am:(((yH 64 kz)++ds).length:Int)<=281474976710656:=by
   have:=zC (n:=64) (key:=kz) (by omega)
   have:=aG.out
   rw[List.length_append];omega
  have aW: ∀z∈yH 64 kz++ds,0<=z/\z<=255:=fun z hz=>by
   rcases List.mem_append.1 hz with hz|hz
   ·exact zD HK.out.1 z hz
   ·exact HD.out.1 z hz
  refine(qcV (h0Z false I) (yH 64 kz++ds) (Q4 false I) aW G p m dg 0 la aE aX bn _ bu.out bE.out am au.1 au.2).mono ?_;rintro e w5 ⟨⟨v5,rfl,aV⟩,aR⟩;have bH:=hid (show Fresh w.heap.size w5 v5 (Jz false I kz la (m:Nat) ds) from by have h:=aV.le (b':=w.heap.size) (by omega);unfold Jz;exact h);have br:=hid (show Below r w w5 from bq.out.trans (aR.mono (by omega)));clear aV aR am aW au;go_wp2
  go_ret2
  exact⟨⟨_,rfl,bH.out⟩,by rw[O];exact br.out⟩
def DecIs (big:Bool)(bs:List Int)(base:Nat)(w':World)(cs:Array Value):Prop:=
 cs.size=11/\cs.all (·.oneCell')=true/\ ∃sa pe,Value.agg cs=parN (YW big false bs) sa pe/\w'.ownsRow base 5 1 sa (zf big bs).length ((zf big bs).map qp)/\w'.ownsRow base 5 1 pe (zA big bs).length ((zA big bs).map qp)
def qdA (big:Bool)(bs:List Int)(w:World)(e:Ending)(w':World):Prop:=
 (∃cs,e= .returned (.tuple #[.agg cs,.int .i64 0])/\DecIs big bs w.heap.size w' cs)/\Below w.heap.size w w'
theorem qjg {big:Bool}{D q:Value}(r:w'.ownsRow base 5 1 D (zf big o).length ((zf big o).map qp))(G:w'.ownsRow base 5 1 q (zA big o).length ((zA big o).map qp)):
  ∃cs,parN (YW big false o) D q= .agg cs/\DecIs big o base w' cs:=by
 obtain⟨a1,J,c1,rfl⟩:=qr r;obtain⟨a2,I,c2,rfl⟩:=qr G;refine⟨_,rfl,rfl,?_,_,_,rfl,r,G⟩;simp[Value.oneCell']
theorem DecIs.mono {big:Bool}{w:World}(h:DecIs big o base w cs)(q:b'<=base)(r: ∀g,base<=g->g<w.heap.size->w'.heap[g]? =w.heap[g]?):DecIs big o b' w' cs:=by
 obtain⟨D,J,O,G,e,I,S⟩:=h;exact⟨D,J,O,G,e,ownsRow_le (qi I r) q,ownsRow_le (qi S r) q⟩
theorem Qj (h:W.ownsRow base 5 1 v n xs)(D:W.heap[b]? =some (.cells c T (0,0)))(I:T≠5):(W.setRow b cs).ownsRow base 5 1 v n xs:=by
 refine⟨h.1,?_⟩;rcases h.2 with o|⟨g,r,q,e,J,o,G⟩
 ·exact .inl o
 ·refine .inr ⟨g,r,q,e,J,?_,G⟩;rw[setRow_other _ _ _ _ ?_];exact o;rintro rfl
  rw[D]at o;simp only[Option.some.injEq,Obj.cells.injEq]at o;exact I o.2.1
theorem qh5 {big:Bool}{q:List Int}{o:Nat}{ds:Array Value}(h:DecIs big q o W cs)(D:W.heap[o]? =some (.cells c 179 (0,0)))(r:b'<=o):DecIs big q b' (W.setRow o ds) cs:=by
 obtain⟨G,O,S,I,e,J,U⟩:=h;exact⟨G,O,S,I,e,ownsRow_le (Qj J D (by decide)) r,ownsRow_le (Qj U D (by decide)) r⟩
theorem qcR (big:Bool)(U:List Int)(bv:Value)(w:World)(hB:Hold w bv U)(ab:okD big false U):
  Calls Tryz.prog 128 #[.int .i64 (kB big),bv] w fun e w'=>qdA big U w e w':=by
 obtain⟨q,G⟩:=Ex w.heap.size;have S:Below q w (w.alloc (.cells Kb 179)):=by rw[<-G];exact Br.alloc Nl _
 have I:=Wn w (.cells Kb 179);rw[G]at I;have HB:=hid hB;have ai:=hid ab;clear hB ab;go_enter Tryz.func128,Tryz.ntmps128
 go_wp2_with fail
 generalize w.alloc (.cells Kb 179)=wA at*;refine(qdW big U bv wA (HB.out.below (G▸S)) ai.out).mono ?_;rintro e w1 ⟨⟨sa,pe,rfl,o1,o2⟩,D⟩;obtain⟨cs,aa,ad⟩:=qjg o1 o2;rw[aa];have ah:q<wA.heap.size:=(Ai I).1;have ak:=D.size;have Z:=qf I D;have af:Below q w w1:=S.trans (D.mono (by omega));have O:=ad.mono (b':=q) (w':=w1) (by omega) (fun _ _ _=>rfl);have ae:=hid Z;have Y:=hid af;have o:=hid O;clear o1 o2 aa D ad Z af S I O;go_upto_region 2 with((with_reducible show wpList _ _ _ (Oper.mk none (Op.store 179 (Operand.tmp 6) _) _ _ _ _::_) _ _);refine wpList_store_row rfl 179 _ _ rfl w1.heap.size cs rfl rfl 179 _ (Wn _ _) (by rw[o.out.1];kernel_rfl) (by rw[o.out.1];rfl) o.out.2.1 ?_)
 refine qm ?_;intro W J;obtain⟨X,V⟩:=Ex w1.heap.size;have r6:W.heap[X]? =some (.cells cs 179 (0,0)):=by rw[J,<-V];exact setRow_heap _ _ _ _ _ _ (Wn _ _)
 have r0:W.heap[q]? =some (.cells Kb 179 (0,0)):=by rw[J];exact(setRow_other (w1.alloc _) _ _ _ (by omega)).trans ((Bh _ _ _ (by omega)).trans ae.out)
 have ag:Below q w W:=by rw[J];exact below_setRow (Y.out.alloc (by omega) _) (by omega) _
 have ac:DecIs big U q W cs:=o.out.mono Nl (fun g hg al=>by rw[J];exact(setRow_other (w1.alloc _) _ _ _ (by omega)).trans (Bh _ _ _ al));rw[V];have am:q<X:=by omega
 have an:X<W.heap.size:=(Ai r6).1;clear J V ae Y o ak ah;have R6:=hid r6;have R0:=hid r0;have aj:=hid ag;have r:=hid ac;clear r6 r0 ag ac;go_wp2_with (first|((with_reducible show wpList _ _ _ (Oper.mk (some 22) _ _ _ _ _::_) _ _);refine wpList_load_row rfl 179 _ rfl X rfl _ _ _ _ R6.out Tryz.underlying179 rfl (by rw[r.out.1];kernel_rfl) ?_)|((with_reducible show wpList _ _ _ (Oper.mk none (Op.store 179 (Operand.tmp 4) _) _ _ _ _::_) _ _);refine wpList_store_row rfl 179 _ _ rfl q cs rfl rfl 179 _ R0.out (by rw[r.out.1];kernel_rfl) (by rw[r.out.1];rfl) r.out.2.1 ?_))
 exact Bp (qI rfl _ _ q 179 _ _ _ rfl (setRow_heap _ _ _ _ _ _ R0.out) Tryz.underlying179 rfl (by rw[r.out.1];kernel_rfl)) rfl (show qdA _ _ _ _ _ from⟨⟨cs,rfl,qh5 r.out R0.out (by omega)⟩,by rw[G];exact below_setRow aj.out Nl _⟩)
def TreeV.vN (t:TreeV)(row at_:Nat)(f:Nat):Nat:=
 if f=1 then t.d.toNat else if f=2 then t.kl else if f=3 then t.f.toNat else if f=4 then t.p.toNat else if f=5 then t.l.toNat else if f=6 then at_ else if f=8 then row else if f=9 then t.i.toNat else 0
def TreeV.big (t:TreeV):Bool:=decide (t.k=1)
theorem yX {t:TreeV}(h:t.validE=0):kB t.big=t.k:=by
 have:=(qn h).1
 unfold TreeV.big kB;rcases this with e|e<;>rw[e]<;>rfl
theorem QW {t:TreeV}(h:t.validE=0):((mB t.big:Nat):Int)=Zo t.k/\((sB t.big:Nat):Int)=Js t.k:=by
 have:=(qn h).1
 unfold TreeV.big mB sB Zo Js;rcases this with e|e<;>rw[e]<;>exact⟨rfl,rfl⟩
theorem jQ {t:TreeV}(h:t.validE=0)(I:0<=t.l/\t.l<=4294967295){row at_:Nat}(r:row<=255)(Y:at_<281474976710656):ParOk t.big (t.vN row at_):=by
 obtain⟨X,O,D,Z,U,S,V,J,G,o, -, -⟩:=qn h;obtain⟨q, -⟩:=QW h;refine⟨⟨?_,?_,?_,?_,⟨?_,fun _=>?_⟩,?_,?_⟩,?_,?_,rfl⟩;all_goals simp only[TreeV.vN,if_true,if_false,Nat.reduceEqDiff]
 all_goals omega
def TreeV.blk (t:TreeV)(z1 z2:List Int)(row at_:Nat):List Int:=QV t.big (t.vN row at_) z1 z2
theorem TreeV.parN {t:TreeV}(h:t.validE=0)(J:0<=t.l/\t.l<=4294967295)(row at_:Nat)(q o:Value):
  parN (t.vN row at_) q o= .agg #[.int .i64 t.d,.int .i64 (t.kl:Nat),.int .i64 t.f,.int .i64 t.p,.int .u32 t.l,.int .u64 at_,.int .u32 0,.int .i64 row,.int .i64 t.i,q,o]:=by
 obtain⟨Y,S,G,Z,V,U,X,O,I,D, -, -⟩:=qn h;have e: ∀z:Int,0<=z->((z.toNat:Nat):Int)=z:=fun z r=>Int.toNat_of_nonneg r
 unfold Go.Proofs.YtahenngmaoellaaGreat.parN parV;simp only[TreeV.vN,if_true,if_false,Nat.reduceEqDiff];rw[e t.d (by omega),e t.f (by omega),e t.p (by omega),e t.l (by omega),e t.i (by omega)];rfl
theorem Ql (h:W.ownsRow B 5 1 v n xs)(G:W.heap[g]? =some (.cells c T fr))(o:Nat)(u:Value)(O:T≠5):(W.setCell ⟨g,o,none⟩ u).ownsRow B 5 1 v n xs:=by
 refine⟨h.1,?_⟩;rcases h.2 with q|⟨J,D,r,e,S,q,I⟩
 ·exact .inl q
 ·refine .inr ⟨J,D,r,e,S,?_,I⟩;rw[heap_setCell_other W _ _ _ ?_];exact q;rintro rfl
  rw[G]at q;simp only[Option.some.injEq,Obj.cells.injEq]at q;exact O q.2.1
def TreeV.outN (t:TreeV)(rt:Bool):Int:=if rt then t.d else t.i
def yV (row:Nat)(kz:List Int):List Int:=if row=0 then kz else []
theorem qet (t:TreeV)(h:t.validE=0)(hl:0<=t.l/\t.l<=4294967295)(z1 z2 kz:List Int)(row at_:Nat)(hr:row<=255)(ha:at_<281474976710656)(la rt:Bool)(da:Option Addr)(dn dc:Nat)(w:World)
  (h1:Hold w (.slice t.sa t.sl t.sc) z1) (h2:Hold w (.slice t.pa t.pl t.pc) z2) (hk:Hold w (.slice t.ka t.kl t.kc) kz):
  Calls Tryz.prog 65 #[t.val,.int .i64 row,.int .u64 at_,.bool la,.bool rt,.slice da dn dc] w fun e w'=> ∃bv kv,e= .returned (.agg (Yf t.k bv kv la (t.outN rt) (.slice da dn dc)))/\
   w'.ownsRow w.heap.size 5 1 bv (mB t.big) ((t.blk z1 z2 row at_).map qp)/\w'.ownsRow w.heap.size 5 1 kv (yV row kz).length ((yV row kz).map qp)/\Below w.heap.size w w':=by
 obtain⟨o,G⟩:=Ex w.heap.size;have aK:z1.length=t.sl:=by obtain⟨a,c,e, -, -⟩:=h1.slice;simp only[Value.slice.injEq]at e;exact e.2.1.symm
 have ax:z2.length=t.pl:=by obtain⟨a,c,e, -, -⟩:=h2.slice;simp only[Value.slice.injEq]at e;exact e.2.1.symm
 have aL:kz.length=t.kl:=by obtain⟨a,c,e, -, -⟩:=hk.slice;simp only[Value.slice.injEq]at e;exact e.2.1.symm
 have aP:=qn h;have bb:=QW h;have bd:kz.length<=64:=by
  have h1:=aP.2.2.2.2.2.2.2.2.2.1;have h2:mB t.big<=64:=by cases t.big<;>decide
  omega
 have aJ:=hid (fun(W:World) (hb:Below o w W)=>qdt t.big (t.vN row at_) z1 z2 (.slice t.sa t.sl t.sc) (.slice t.pa t.pl t.pc) W (jQ h hl hr ha) (h1.below (G▸hb)) (h2.below (G▸hb)) (by omega) (by omega));rw[TreeV.parN h hl,yX h]at aJ;have HK:=hid hk;have bg:=hid aL;have HB:=hid (show t.blk z1 z2 row at_=QV t.big (t.vN row at_) z1 z2 from rfl);generalize t.blk z1 z2 row at_=BL at*;obtain⟨k,d,f,p,l,i,ka,kl,kc,sa,sl,sc,pa,pl,pc⟩:=t;unfold TreeV.val;simp only at*
 clear aP bb h hl h1 h2 hk aK ax aL;go_enter Tryz.func65,Tryz.ntmps65
 go_upto_region 1 with(fail)
 have r:((w.alloc (.cells #[.int .i64 k,.int .i64 d,.int .i64 f,.int .i64 p,.int .u32 l,.int .i64 i,.slice ka kl kc,.slice sa sl sc,.slice pa pl pc] 26)).alloc (.cells Ke 73)).heap[o]? =some (.cells #[.int .i64 k,.int .i64 d,.int .i64 f,.int .i64 p,.int .u32 l,.int .i64 i,.slice ka kl kc,.slice sa sl sc,.slice pa pl pc] 26 (0,0)):=(Bh _ _ _ (by simp;omega)).trans (qe _ _ G.symm);have ak:((w.alloc (.cells #[.int .i64 k,.int .i64 d,.int .i64 f,.int .i64 p,.int .u32 l,.int .i64 i,.slice ka kl kc,.slice sa sl sc,.slice pa pl pc] 26)).alloc (.cells Ke 73)).heap[o+1]? =some (.cells Ke 73 (0,0)):=qe _ _ (by simp;omega);have aN:Below o w ((w.alloc (.cells #[.int .i64 k,.int .i64 d,.int .i64 f,.int .i64 p,.int .u32 l,.int .i64 i,.slice ka kl kc,.slice sa sl sc,.slice pa pl pc] 26)).alloc (.cells Ke 73)):=by rw[<-G];exact(Br.alloc Nl _).alloc (by simp) _
 have aD:((w.alloc (.cells #[.int .i64 k,.int .i64 d,.int .i64 f,.int .i64 p,.int .u32 l,.int .i64 i,.slice ka kl kc,.slice sa sl sc,.slice pa pl pc] 26)).alloc (.cells Ke 73)).heap.size=o+2:=by simp;omega
 generalize ((w.alloc (.cells #[.int .i64 k,.int .i64 d,.int .i64 f,.int .i64 p,.int .u32 l,.int .i64 i,.slice ka kl kc,.slice sa sl sc,.slice pa pl pc] 26)).alloc (.cells Ke 73))=Z at*;have c0:Z.cell? ⟨o,0,none⟩=some (.int .i64 k):=qd r 0;have c1:Z.cell? ⟨o,1,none⟩=some (.int .i64 d):=qd r 1;have c2:Z.cell? ⟨o,2,none⟩=some (.int .i64 f):=qd r 2;have c3:Z.cell? ⟨o,3,none⟩=some (.int .i64 p):=qd r 3;have c4:Z.cell? ⟨o,4,none⟩=some (.int .u32 l):=qd r 4;have c5:Z.cell? ⟨o,5,none⟩=some (.int .i64 i):=qd r 5;have c6:Z.cell? ⟨o,6,none⟩=some (.slice ka kl kc):=qd r 6;have c7:Z.cell? ⟨o,7,none⟩=some (.slice sa sl sc):=qd r 7;have c8:Z.cell? ⟨o,8,none⟩=some (.slice pa pl pc):=qd r 8;have aT:o<Z.heap.size:=by omega
 have ab:=hid r;have aj:=hid ak;have aR:=hid aN;clear r ak aN;go_upto_region 2 with(first|((with_reducible show wpList _ _ _ (Oper.mk none (Op.store 179 _ _) _ _ _ _::_) _ _);refine wpList_store_row rfl 179 _ _ rfl Z.heap.size #[.int .i64 d,.int .i64 kl,.int .i64 f,.int .i64 p,.int .u32 l,.int .u64 at_,.int .u32 0,.int .i64 row,.int .i64 i,.slice sa sl sc,.slice pa pl pc] rfl rfl 179 _ (Wn _ _) (by kernel_rfl) rfl (by simp[Value.oneCell']) ?_))
 refine qm ?_;intro W hW;obtain⟨b2,an⟩:=Ex (o+2);have aE:W.heap[b2]? =some (.cells #[.int .i64 d,.int .i64 kl,.int .i64 f,.int .i64 p,.int .u32 l,.int .u64 at_,.int .u32 0,.int .i64 row,.int .i64 i,.slice sa sl sc,.slice pa pl pc] 179 (0,0)):=by rw[hW,<-an,<-aD];exact Wn _ _
 have ao:Below b2 Z W:=by rw[hW,<-an,<-aD];exact Br.alloc Nl _
 rw[an];have ap:Below o w W:=aR.out.trans (ao.mono (by omega));have r:W.heap[o]? =some (.cells #[.int .i64 k,.int .i64 d,.int .i64 f,.int .i64 p,.int .u32 l,.int .i64 i,.slice ka kl kc,.slice sa sl sc,.slice pa pl pc] 26 (0,0)):=(ao.block o (by omega)).trans ab.out;have ak:W.heap[o+1]? =some (.cells Ke 73 (0,0)):=(ao.block (o+1) (by omega)).trans aj.out;have c0:W.cell? ⟨o,0,none⟩=some (.int .i64 k):=qd r 0;have aW:b2<W.heap.size:=(Ai aE).1;have aX:o<W.heap.size:=by omega
 clear hW ao aR ab aj aD aT;go_wp2_with (refine L179 b2 rfl aE ?_)
 refine(aJ.out W ap).mono ?_;rintro e w2 ⟨⟨bv,rfl,av⟩,ai⟩;obtain⟨a5,n5,k5,rfl⟩:=qr av;have ab:=hid (qf r ai);have aj:=hid (qf ak ai);have a9:=ai.size;have al:=ownsRow_le av (show o<=W.heap.size by omega);rw[<-HB.out]at al;have aQ:=hid al;have aO:=hid (show Below o w w2 from ap.trans (ai.mono (by omega)));have c0:w2.cell? ⟨o,0,none⟩=some (.int .i64 k):=qd ab.out 0;have c5:w2.cell? ⟨o,5,none⟩=some (.int .i64 i):=qd ab.out 5;have aU:o+1<w2.heap.size/\o<w2.heap.size:=by omega
 clear r ak ap ai av al aE aJ an aW aX a9;go_upto_region 4 with(fail)
 refine qm ?_;intro V hV;obtain⟨q,am⟩:=Ex w2.heap.size;have ar:V.heap[q]? =some (.cells #[.int .i64 k,.slice a5 n5 k5,.slice none 0 0,.bool la,.int .i64 i,.slice da dn dc] 73 (0,0)):=by rw[hV,<-am];exact Wn _ _
 have ag:Below q w2 V:=by rw[hV,<-am];exact Br.alloc Nl _
 rw[am];have ay:V.heap[o]? =_:=(ag.block o (by omega)).trans ab.out;have aC:V.heap[o+1]? =_:=(ag.block (o+1) (by omega)).trans aj.out;have D:=hid ar;have af:=hid ay;have J:=hid aC;have bh:=(Ai ar).1;have ah:=hid (show Below o w V from aO.out.trans (ag.mono (by omega)));have ac:=hid (qi aQ.out (fun g _ g2=>ag.block g (by omega)));have be:o+1<q/\o<V.heap.size/\o+1<V.heap.size:=by omega
 clear hV am ag ab aj aO aQ c0 c5 aU ay aC ar;by_cases aH:row=0
 case neg=>
  have hq: ¬((row:Int)=0):=by omega
  have au:yV row kz=[]:=if_neg aH
  cases rt
  case false=>
   go_wp2_with (first|(refine L73 q rfl D.out ?_)|((with_reducible show wpList _ _ _ (Oper.mk none (Op.store 73 _ _) _ _ _ _::_) _ _);refine wpList_store_row rfl 73 _ _ rfl (o+1) #[.int .i64 k,.slice a5 n5 k5,.slice none 0 0,.bool la,.int .i64 i,.slice da dn dc] rfl rfl 73 _ J.out (by kernel_rfl) rfl (by simp[Value.oneCell']) ?_))
   exact Bp (results_cell_row rfl _ _ _ _ _ _ _ rfl (setRow_heap _ _ _ _ _ _ J.out) Tryz.underlying73 rfl (by kernel_rfl)) rfl (by rw[G];exact⟨_,_,rfl,Qj ac.out J.out (by decide),(by first|exact Wo _ _ _ _|(rw[au];exact Wo _ _ _ _)),below_setRow ah.out (by omega) _⟩)
  case true=>
   have c1:V.cell? ⟨o,1,none⟩=some (.int .i64 d):=qd af.out 1;have c4:V.cell? ⟨q,4,none⟩=some (.int .i64 i):=qd D.out 4;have f4:=frozen_of_row V q 4 _ _ D.out;go_upto_region 8 with(fail)
   have az:=hid (heap_setCell_same V q 4 _ _ (.int .i64 d) D.out);have Y:=hid ((heap_setCell_other V ⟨q,4,none⟩ (o+1) (.int .i64 d) (show o+1≠q by omega)).trans J.out);have aw:=hid (Ql ac.out D.out 4 (.int .i64 d) (by decide));have aB:=hid (show Below o w (V.setCell ⟨q,4,none⟩ (.int .i64 d)) from ah.out.setCell (show o<=q by omega) _);clear c1 c4 f4;generalize V.setCell ⟨q,4,none⟩ (.int .i64 d)=V6 at*;go_wp2_with (first|(refine L73 q rfl az.out ?_)|((with_reducible show wpList _ _ _ (Oper.mk none (Op.store 73 _ _) _ _ _ _::_) _ _);refine wpList_store_row rfl 73 _ _ rfl (o+1) #[.int .i64 k,.slice a5 n5 k5,.slice none 0 0,.bool la,.int .i64 d,.slice da dn dc] rfl rfl 73 _ Y.out (by kernel_rfl) rfl (by simp[Value.oneCell']) ?_))
   exact Bp (results_cell_row rfl _ _ _ _ _ _ _ rfl (setRow_heap _ _ _ _ _ _ Y.out) Tryz.underlying73 rfl (by kernel_rfl)) rfl (by rw[G];exact⟨_,_,rfl,Qj aw.out Y.out (by decide),(by first|exact Wo _ _ _ _|(rw[au];exact Wo _ _ _ _)),below_setRow aB.out (by omega) _⟩)
 subst aH;have au:yV 0 kz=kz:=rfl;obtain⟨i0,hi,bc,aK,ax⟩:=info_parts Qu;have c6:V.cell? ⟨o,6,none⟩=some (.slice ka kl kc):=qd af.out 6;have a4:=hid (HK.out.below (G▸ah.out)).src;have c2:V.cell? ⟨q,2,none⟩=some (.slice none 0 0):=qd D.out 2;have f2:=frozen_of_row V q 2 _ _ D.out;go_upto_region 6 with(first|(at_builtin;refine Qb rfl _ _ _ rfl V V.heap.size rfl (by repeat(first|exact Below.refl _ _|refine Below.drew ?_)) 5 i0 (.int .u8 0) 1 Tryz.underlying24 hi bc aK ax rfl _ 0 [] rfl (Wo _ _ _ _) _ _ _ rfl (a4.out) (by unfold maxLen;omega) (by omega) ?_;intro v' w' ad aF;obtain⟨U,X,O,rfl⟩:=qr ad;have ae:=qf D.out aF;have a3:w'.cell? ⟨q,2,none⟩=some (.slice none 0 0):=qd ae 2;have a8:=frozen_of_row w' q 2 _ _ ae;have a7:q<w'.heap.size:=(Ai ae).1;have aA:=hid ad;have I:=hid aF;clear ae ad aF))
 have aM:=(show Below o w w' from ah.out.trans (I.out.mono (by omega)));have aS:Below o w (w'.setCell ⟨q,2,none⟩ (.slice U X O)):=aM.setCell (show o<=q by omega) _;have S:=hid (heap_setCell_same w' q 2 _ _ (.slice U X O) (qf D.out I.out));have aa:=hid ((heap_setCell_other w' ⟨q,2,none⟩ (o+1) (.slice U X O) (show o+1≠q by omega)).trans (qf J.out I.out));have aV:=hid ((heap_setCell_other w' ⟨q,2,none⟩ o (.slice U X O) (show o≠q by omega)).trans (qf af.out I.out));have aG:=hid (Ql (qi ac.out (fun g _ g2=>I.out.block g g2)) (qf D.out I.out) 2 (.slice U X O) (by decide));have aq:=hid (Ql (ownsRow_le aA.out (show o<=V.heap.size by omega)) (qf D.out I.out) 2 (.slice U X O) (by decide));have aI:=hid aS;have aZ:(w'.setCell ⟨q,2,none⟩ (.slice U X O)).heap.size=w'.heap.size:=by simp[World.setCell]
 have aY:=I.out.size;rw[Nat.zero_add,List.nil_append]at aq;have bf:q<(w'.setCell ⟨q,2,none⟩ (.slice U X O)).heap.size/\o<(w'.setCell ⟨q,2,none⟩ (.slice U X O)).heap.size/\o+1<(w'.setCell ⟨q,2,none⟩ (.slice U X O)).heap.size:=by omega
 clear aM aS aZ aY D J af ac ah aA I a3 a8 a7 c2 f2 c6;generalize w'.setCell ⟨q,2,none⟩ (.slice U X O)=V5 at*
 cases rt
 case false=>
  go_wp2_with (first|(refine L73 q rfl S.out ?_)|((with_reducible show wpList _ _ _ (Oper.mk none (Op.store 73 _ _) _ _ _ _::_) _ _);refine wpList_store_row rfl 73 _ _ rfl (o+1) #[.int .i64 k,.slice a5 n5 k5,.slice U X O,.bool la,.int .i64 i,.slice da dn dc] rfl rfl 73 _ aa.out (by kernel_rfl) rfl (by simp[Value.oneCell']) ?_))
  exact Bp (results_cell_row rfl _ _ _ _ _ _ _ rfl (setRow_heap _ _ _ _ _ _ aa.out) Tryz.underlying73 rfl (by kernel_rfl)) rfl (by rw[G];exact⟨_,_,rfl,Qj aG.out aa.out (by decide),(Qj aq.out aa.out (by decide)),below_setRow aI.out (by omega) _⟩)
 case true=>
  have c1:V5.cell? ⟨o,1,none⟩=some (.int .i64 d):=qd aV.out 1;have c4:V5.cell? ⟨q,4,none⟩=some (.int .i64 i):=qd S.out 4;have f4:=frozen_of_row V5 q 4 _ _ S.out;go_upto_region 8 with(fail)
  have az:=hid (heap_setCell_same V5 q 4 _ _ (.int .i64 d) S.out);have Y:=hid ((heap_setCell_other V5 ⟨q,4,none⟩ (o+1) (.int .i64 d) (show o+1≠q by omega)).trans aa.out);have aw:=hid (Ql aG.out S.out 4 (.int .i64 d) (by decide));have ba:=hid (Ql aq.out S.out 4 (.int .i64 d) (by decide));have aB:=hid (show Below o w (V5.setCell ⟨q,4,none⟩ (.int .i64 d)) from aI.out.setCell (show o<=q by omega) _);clear c1 c4 f4;generalize V5.setCell ⟨q,4,none⟩ (.int .i64 d)=V6 at*;go_wp2_with (first|(refine L73 q rfl az.out ?_)|((with_reducible show wpList _ _ _ (Oper.mk none (Op.store 73 _ _) _ _ _ _::_) _ _);refine wpList_store_row rfl 73 _ _ rfl (o+1) #[.int .i64 k,.slice a5 n5 k5,.slice U X O,.bool la,.int .i64 d,.slice da dn dc] rfl rfl 73 _ Y.out (by kernel_rfl) rfl (by simp[Value.oneCell']) ?_))
  exact Bp (results_cell_row rfl _ _ _ _ _ _ _ rfl (setRow_heap _ _ _ _ _ _ Y.out) Tryz.underlying73 rfl (by kernel_rfl)) rfl (by rw[G];exact⟨_,_,rfl,Qj aw.out Y.out (by decide),(Qj ba.out Y.out (by decide)),below_setRow aB.out (by omega) _⟩)
structure KB (B:Nat)(w w':World):Prop where
 os:w'.os=w.os
 tape:w'.tape=w.tape
 output:w'.output=w.output
 size:w.heap.size<=w'.heap.size
 block: ∀k:Nat,k<B->w'.heap[k]? =w.heap[k]?
 bytes: ∀(k:Nat) (c:Array Value),w.heap[k]? =some (.cells c 5 (0,0))->w'.heap[k]? =some (.cells c 5 (0,0))
namespace KB
variable {B:Nat} {w w' w'':World}
theorem refl (B:Nat)(w:World):KB B w w:=⟨rfl,rfl,rfl,Nat.le_refl _,fun _ _=>rfl,fun _ _ h=>h⟩
theorem trans (h:KB B w w')(k:KB B w' w''):KB B w w'':=⟨k.os.trans h.os,k.tape.trans h.tape,k.output.trans h.output,Nat.le_trans h.size k.size,fun j o=>(k.block j o).trans (h.block j o),fun j c q=>k.bytes j c (h.bytes j c q)⟩
theorem of_below (h:Below w.heap.size w w')(q:B<=w.heap.size):KB B w w':=⟨h.os,h.tape,h.output,h.size,fun k r=>h.block k (by omega),fun k c o=>(h.block k (Ai o).1).trans o⟩
theorem of_but (h:But g w w')(G:B<=w.heap.size)(J:B<=g)(q:w.heap[g]? =some (.cells c T fr))(r:T≠5):KB B w w':=
 ⟨h.os,h.tape,h.output,h.size,fun k I=>h.block k (by omega) (by omega),fun k D o=>by
  rw[h.block k (Ai o).1 ?_];exact o;rintro rfl
  rw[q]at o;simp only[Option.some.injEq,Obj.cells.injEq]at o;exact r o.2.1⟩
theorem below (h:KB B w w'):Below B w w':=⟨h.os,h.tape,h.output,h.size,h.block⟩
end KB
theorem Fresh.kb {w:World}(h:Fresh B w x z)(k:KB b w w'):Fresh B w' x z:=by
 rcases h with h|⟨g,q,o,e,r,G,D⟩
 ·exact .inl h
 ·exact .inr ⟨g,q,o,e,r,k.bytes _ _ G,D⟩
theorem Yw {w:World}(h:w.ownsRow B 5 1 x n (z.map qp)):Fresh B w x z:=by
 have o:z.length=n:=by have:=h.1;simpa using this
 rcases h.2 with⟨rfl,S⟩|⟨g,r,q,rfl,D,G,U,J,O,I⟩
 ·exact .inl ⟨List.eq_nil_of_length_eq_zero (by omega),rfl⟩
 ·exact .inr ⟨g,r,q,by rw[o],D,G,by omega,by omega,J,by rw[o];simpa using I⟩
theorem own_kb {w:World}(h:w.ownsRow B 5 1 x n xs)(k:KB b w w'):w'.ownsRow B 5 1 x n xs:=by
 refine⟨h.1,?_⟩;rcases h.2 with o|⟨g,r,q,e,D,o,G⟩
 ·exact .inl o
 ·exact .inr ⟨g,r,q,e,D,k.bytes _ _ o,G⟩
def OwnB (B:Nat)(w:World)(x:Value)(z:List Int):Prop:=(∀a∈z,0<=a/\a<=255)/\Fresh B w x z
theorem OwnB.kb {w:World}(h:OwnB B w x z)(k:KB b w w'):OwnB B w' x z:=⟨h.1,h.2.kb k⟩
theorem OwnB.hold {w:World}(h:OwnB B w x z):Hold w x z:=h.2.hold h.1
theorem OwnB.le {w:World}(h:OwnB B w x z)(o:b<=B):OwnB b w x z:=⟨h.1,h.2.le o⟩
theorem OwnB.one {w:World}(h:OwnB B w x z):x.oneCell'=true:=by
 rcases h.2 with⟨-,rfl⟩|⟨g,q,o,rfl, -⟩<;>rfl
def qC (L:List (List Int))(i:Nat):List Int:=L.getD i []
def ListO (B:Nat)(w:World)(v:Value)(L:List (List Int)):Prop:=
 ∃vs,w.ownsRow B 24 1 v L.length vs/\ ∀i,i<L.length->OwnB B w (vs.getD i undef) (qC L i)
def ListH (w:World)(v:Value)(L:List (List Int)):Prop:=
 ∃a cap,v= .slice a L.length cap/\L.length<=cap/\(cap:Int)<=9223372036854775807/\(L=[]\/ ∃g off,a=some ⟨g,off,none⟩/\g<w.heap.size/\ ∀i,i<L.length-> ∃x,w.cell? ⟨g,off+i,none⟩=some x/\Hold w x (qC L i))
theorem ListO.hold {w:World}(h:ListO B w v L):ListH w v L:=by
 obtain⟨vs,r,O⟩:=h;have U:vs.length=L.length:=by have:=r.1;simpa using this
 rcases r.2 with⟨rfl,G⟩|⟨g,q,o,rfl,X,D,I,S,V,J⟩
 ·exact⟨none,0,by rw[G],by omega,by omega,.inl (List.eq_nil_of_length_eq_zero G)⟩
 ·refine⟨_,q,rfl,I,by unfold maxLen at S;omega,.inr ⟨g,0,rfl,(Ai D).1,fun i hi=>⟨vs.getD i undef,?_,(O i hi).hold⟩⟩⟩;rw[qd D (0+i),Nat.zero_add];have e:o.toList[i]? =vs[i]? :=by rw[<-J,List.getElem?_take,if_pos (by omega)]
  rw[<-Array.getElem?_toList,e,Lg,List.getElem?_eq_getElem (by omega)];rfl
theorem ListH.below {w:World}(h:ListH w v L)(q:Below w.heap.size w w'):ListH w' v L:=by
 obtain⟨a,r,rfl,S,G,o⟩:=h;refine⟨a,r,rfl,S,G,?_⟩;rcases o with o|⟨g,off,rfl,D,J⟩
 ·exact .inl o
 ·refine .inr ⟨g,off,rfl,Nat.lt_of_lt_of_le D q.size,fun i hi=>?_⟩;obtain⟨x,I,O⟩:=J i hi;exact⟨x,(q.cell (p:=⟨g,off+i,none⟩) D).trans I,O.below q⟩
theorem nthL_mem {i:Nat}(hi:i<L.length):qC L i∈L:=by
 unfold qC;rw[Lg,List.getElem?_eq_getElem hi];exact List.getElem_mem hi
theorem jT {k:Nat}(o:k<L.length):(L.take (k+1)).flatten=(L.take k).flatten++qC L k:=by
 have e:L.take (k+1)=L.take k++[qC L k]:=by
  unfold qC;rw[List.take_succ,Lg,List.getElem?_eq_getElem o];rfl
 rw[e,List.flatten_append];simp
theorem qed (L:List (List Int))(k:Nat):(L.take k).flatten.length<=L.flatten.length:=by
 conv=>rhs;rw[<-List.take_append_drop k L,List.flatten_append,List.length_append]
 omega
theorem qaG (L:List (List Int))(v:Value)(w:World)(h:ListH w v L)(X:L.flatten.length<=70368744177664):
  Calls Tryz.prog 70 #[v] w fun e w'=> ∃u,e= .returned u/\w'.ownsRow w.heap.size 5 1 u L.flatten.length (L.flatten.map qp)/\Below w.heap.size w w':=by
 obtain⟨i0,hi,ac,aa,ad⟩:=info_parts Qu;obtain⟨J,r⟩:=Ex w.heap.size;have HH:=hid h;obtain⟨a,ah,rfl,ag,ai, -⟩:=h;have aj:(L.length:Int)<=9223372036854775807:=by omega
 have V:=hid X;clear X;go_enter Tryz.func70,Tryz.ntmps70
 go_wp2_with fail
 go_loopw [3,8] (fun s i wr=> ∃k:Nat,i= .int .i64 k/\k<=L.length/\wr.ownsRow J 5 1 s (L.take k).flatten.length ((L.take k).flatten.map qp)/\Below J w wr) (fun _ i _=>L.length - (intOf i).toNat)
 case atStart=>exact⟨0,rfl,Nat.zero_le _,Wo _ _ _ _,Below.refl _ _⟩
 case round=>
  obtain⟨k,rfl,hk,D,q⟩:=hrel;by_cases o:k<L.length
  case pos=>
   obtain⟨a',ae,e, -, -,Y⟩:=HH.out;obtain⟨g,off,rfl,h4,Z⟩:=Y.resolve_left (fun e=>by rw[e]at o;simp at o);simp only[Value.slice.injEq]at e;obtain⟨rfl, -, -⟩:=e;obtain⟨x,hx,O⟩:=Z k o;have c0:wr.cell? ⟨g,off+k,none⟩=some x:=(q.cell (p:=⟨g,off+k,none⟩) (show g<J by omega)).trans hx;have ak:g<wr.heap.size:=by have:=q.size;omega
   have HX:=hid (O.below (r▸q)).src;have S:=hid D;have U:=hid q;have G:=qed L (k+1);rw[jT o,List.length_append]at G;have HF:=hid G;have af:(k:Int)<L.length:=by omega
   clear hx O Z h4 Y D q G;go_wp2_with (at_builtin;refine Qb rfl _ _ _ rfl w J r.symm U.out 5 i0 (.int .u8 0) 1 Tryz.underlying24 hi ac aa ad rfl _ _ _ rfl S.out _ _ _ rfl HX.out (by have:=HF.out;have:=V.out;unfold maxLen;omega) (by have:=HF.out;have:=V.out;omega) ?_;intro v' w' I ab)
   refine⟨⟨k+1,rfl,by omega,?_,ab⟩,by simp[intOf];omega⟩;rw[jT o,List.length_append,List.map_append];exact I
  obtain rfl:k=L.length:=by omega
  rw[List.take_length]at D;have S:=hid D;have U:=hid q;clear D q;go_wp2
  go_ret
  exact⟨_,rfl,r▸S.out,r▸U.out⟩
theorem QO {P:Program}{J:List Oper}{o:Oper}{a:Act}(V:o.guard=none)(s x:Operand)(t:TypeId)
  (ho:o.op= .call { callee:= .builtin .append,args:= #[s,x],argTypes:= #[t,t] }) (B:Nat) (e:TypeId) (he:e≠5) (i:TypeInfo) (z:Value) (size bytes:Nat) (ht:P.underlying t=some (.slice e)) (hi:P.info? e=some i) (hz:i.zero=some z)
  (S:i.size=size) (ab:i.bytes=bytes) (Z:z.cells.size=size) (aa:0<size) (v:Value) (n:Nat) (xs G:List Value) (T:TypeId) (hs:a.eval s=v) (r:W.ownsRow B e size v n xs)
  (hx:a.eval x= .slice (some ⟨W.heap.size,0,none⟩) 1 1) (hl:G.length=size) (h1: ∀u∈G,u.oneCell'=true) (Y:n+1<=maxLen) (I:(n+1)*bytes<=140737488355328) (hB:B<=W.heap.size)
  (h: ∀v' w',w'.ownsRow B e size v' (n+1) (xs++G)->KB B W w'->Spare (fun k=>v.ownBlock≠some k) W w'->wpList P ops Q J (a.put o.dst v') w'):wpList P ops Q (o::J) a (W.alloc (.cells G.toArray T)):=by
 refine wpList_append_own _ V s x t ho B e i z size bytes ht hi hz S ab Z aa v n xs hs (r.alloc _) ⟨W.heap.size,0,none⟩ 1 1 G hx (by omega) (fun j u hj=>?_) h1 Y I (by simp;omega) fun v' w' h2 h3 _=>?_
 ·rw[Go.WideShapes.add_plain,qd (Wn W _) (0+j),Nat.zero_add];simpa using hj
 have q:Spare (fun k=>v.ownBlock≠some k) W w':=(Spare.of_below _ (Br.alloc Nl _)).trans (Spare.of_grown h3) (fun _ _ h=>h);refine h v' w' h2 ⟨q.os,q.tape,q.output,q.size,fun k hk=>q.block k (by omega) (fun D=>?_),fun k c O=>?_⟩ q
 ·rcases r.2 with⟨rfl, -⟩|⟨g,X,U,rfl,h4, -⟩
  ·cases D
  ·simp only[Value.ownBlock,Option.some.injEq]at D;omega
 ·rw[q.block k (Ai O).1 (fun D=>?_)]
  ·exact O
  ·rcases r.2 with⟨rfl, -⟩|⟨g,X,U,rfl, -,h5, -⟩
   ·cases D
   ·simp only[Value.ownBlock,Option.some.injEq]at D;subst D;rw[h5]at O;simp only[Option.some.injEq,Obj.cells.injEq]at O;exact he O.2.1
theorem ListO.nil (B:Nat)(w:World):ListO B w (.slice none 0 0) []:=⟨[],Wo _ _ _ _,fun i hi=>by simp at hi⟩
theorem ListO.kb {w:World}(h:ListO B w v L)(k:KB b w w')(I: ∀g,v.ownBlock=some g->w'.heap[g]? =w.heap[g]?):ListO B w' v L:=by
 obtain⟨vs,D,O⟩:=h;refine⟨vs,⟨D.1,?_⟩,fun i hi=>(O i hi).kb k⟩;rcases D.2 with o|⟨g,r,q,rfl,J,o,G⟩
 ·exact .inl o
 ·exact .inr ⟨g,r,q,rfl,J,(I g rfl).trans o,G⟩
theorem ListO.below {w:World}(h:ListO B w v L)(k:Below w.heap.size w w'):ListO B w' v L:=by
 refine h.kb (KB.of_below k (Nat.zero_le _)) fun g o=>?_
 obtain⟨vs,r, -⟩:=h;rcases r.2 with⟨rfl, -⟩|⟨I,G,D,rfl, -,q, -⟩
 ·cases o
 ·simp only[Value.ownBlock,Option.some.injEq]at o;subst o;exact k.block _ (Ai q).1
theorem ListO.le {w:World}(h:ListO B w v L)(o:b<=B):ListO b w v L:=by
 obtain⟨vs,r,q⟩:=h;exact⟨vs,ownsRow_le r o,fun i hi=>(q i hi).le o⟩
theorem ListO.snoc {w:World}{v':Value}{vs:List Value}(J: ∀i,i<L.length->OwnB B w (vs.getD i undef) (qC L i))(I:vs.length=L.length)(G:OwnB B w x z)
  (D:w'.ownsRow B 24 1 v' (L.length+1) (vs++[x])) (r:KB B w w'):ListO B w' v' (L++[z]):=by
 refine⟨vs++[x],by simpa using D,fun i hi=>?_⟩;simp only[List.length_append,List.length_singleton]at hi;by_cases h:i<L.length
 ·have o:(vs++[x]).getD i undef=vs.getD i undef:=by simp[Lg,List.getElem?_append_left (show i<vs.length by omega)]
  have q:qC (L++[z]) i=qC L i:=by simp[qC,Lg,List.getElem?_append_left h]
  rw[o,q];exact(J i h).kb r
 ·obtain rfl:i=L.length:=by omega
  have o:(vs++[x]).getD L.length undef=x:=by simp[Lg,<-I]
  have q:qC (L++[z]) L.length=z:=by simp[qC,Lg]
  rw[o,q];exact G.kb r
theorem Yn:(Tryz.prog.info? 24).map (fun i=>(i.zero,i.size,i.bytes))=some (some (.slice none 0 0),1,24):=by kernel_rfl
theorem QU {r:List Oper}{o:Oper}{D:Act}{w:World}(U:o.guard=none)(x:Operand)(O:o.op= .buildSlice 67 1 #[(0,x)])(a:Option Addr)(n k:Nat)(S:D.eval x= .slice a n k)
  (h:wpList Tryz.prog ops Q r (D.put o.dst (.slice (some ⟨w.heap.size,0,none⟩) 1 1)) (w.alloc (.cells #[.slice a n k] 24))):wpList Tryz.prog ops Q (o::r) D w:=by
 obtain⟨J,G,I,q, -⟩:=info_parts Yn;exact wpList_buildSlice U 67 24 1 _ O #[.slice a n k] J _ Tryz.underlying67 G I (by rw[q];decide) (by rw[q];decide) (by rw[q,show Array.range (1*1)= #[0] by decide];simp[S,Instr.fill,Value.cells]) h
end Go.Proofs.YtahenngmaoellaaGreat
namespace Go.Proofs.YtahenngmaoellaaGreat
open Go.ChangeShapes Go.WideShapes Go.ChangeAt Go.RowKit Go.Joins Go.Shelf Go.Maps
open Go.Lib (hid)
variable{n k c B:Nat}{α:Type}{L:List (List Int)}{a:Option Addr}{x:Value}{z:List Int}
theorem Zu {d j:Nat}(D:1<=d):j<qP n d↔j*d<n:=by
 have q:=Nat.div_add_mod n d;have G:=Nat.mod_lt n (show 0<d by omega);unfold qP;split
 ·rename_i r;rw[r,Nat.add_zero]at q;conv=>rhs;rw[<-q,Nat.mul_comm]
  exact(Nat.mul_lt_mul_left (show 0<d by omega)).symm
 ·constructor
  ·intro h;have o:j*d<=(n/d)*d:=Nat.mul_le_mul_right d (by omega);rw[Nat.mul_comm (n/d) d]at o;omega
  ·intro h;have o:j*d<(n/d+1)*d:=by rw[Nat.add_mul,Nat.one_mul,Nat.mul_comm (n/d) d];omega
   exact Nat.lt_of_mul_lt_mul_right o
def piece {α:Type}(n:Nat)(L:List α)(i:Nat):List α:=(L.drop (i*n)).take n
def Zb {α:Type}(n:Nat)(L:List α)(m:Nat):List (List α):=(List.range m).map (piece n L)
theorem qa7 (n:Nat)(L:List α)(m:Nat):Zb n L (m+1)=Zb n L m++[piece n L m]:=by simp[Zb,List.range_succ]
theorem Qx (n:Nat)(L:List α)(m:Nat):(Zb n L m).length=m:=by simp[Zb]
def QH (n:Nat)(zs:List Int):List (List Int):=if zs=[] then [[]] else Zb n zs (qP zs.length n)
def ZN (f:Nat)(L:List (List Int))(m:Nat):List (List Int):=(List.range m).map fun i=>(piece f L i).flatten
theorem qcn (f:Nat)(L:List (List Int))(m:Nat):ZN f L (m+1)=ZN f L m++[(piece f L m).flatten]:=by simp[ZN,List.range_succ]
theorem Qm (f:Nat)(L:List (List Int))(m:Nat):(ZN f L m).length=m:=by simp[ZN]
def TreeV.rootZ (t:TreeV)(row n:Nat):Bool:=decide (t.f=0\/(row:Int)=t.p - 1\/(n:Int)<=t.f)
def TreeV.upZ (t:TreeV)(row:Nat)(L:List (List Int)):List (List Int):=if t.rootZ row L.length then [L.flatten] else ZN t.fn L (qP L.length t.fn)
theorem Y8 {M:List (List Int)}(h:M.Sublist L):M.flatten.length<=L.flatten.length:=by
 induction h with
 | slnil=>exact Nat.le_refl _
 | cons a _ ih=>simp only[List.flatten_cons,List.length_append];omega
 | cons_cons a _ ih=>simp only[List.flatten_cons,List.length_append];omega
theorem qaz (n:Nat)(L:List α)(i:Nat):(piece n L i).Sublist L:=(List.take_sublist _ _).trans (List.drop_sublist _ _)
theorem qaC (L:List (List Int))(k i:Nat):qC (L.drop k) i=qC L (k+i):=by simp[qC,Lg,List.getElem?_drop]
theorem qhR {i:Nat}(h:i<k):qC (L.take k) i=qC L i:=by simp[qC,Lg,List.getElem?_take,h]
theorem ListH.take {w:World}(h:ListH w (.slice a n c) L)(O:k<=L.length):ListH w (.slice a k k) (L.take k):=by
 obtain⟨X,U,e,V,S,o⟩:=h;simp only[Value.slice.injEq]at e;obtain⟨rfl, -,rfl⟩:=e;have r:(L.take k).length=k:=by simp;omega
 refine⟨a,k,by rw[r],by omega,by omega,?_⟩;by_cases q:L.take k=[]
 ·exact .inl q
 rcases o with o|⟨g,off,rfl,J,G⟩
 ·rw[o]at q;simp at q
 ·refine .inr ⟨g,off,rfl,J,fun i hi=>?_⟩;obtain⟨x,D,I⟩:=G i (by omega);exact⟨x,D,by rw[qhR (by omega)];exact I⟩
theorem ListH.drop {w:World}{o:Option Addr}{I G:Nat}(h:ListH w (.slice a n c) L)(hk:k<=L.length)(S:I=L.length - k)(hc:G=c - k)(g off:Nat)(Z:a=some ⟨g,off,none⟩)(J:o=some ⟨g,off+k,none⟩\/o=some ⟨g,off,none⟩/\c<=k):ListH w (.slice o I G) (L.drop k):=by
 subst Z;obtain⟨a1,c1,e,h1,h2,D⟩:=h;simp only[Value.slice.injEq]at e;obtain⟨rfl, -,rfl⟩:=e;refine⟨o,G,by simp[S],by simp;omega,by omega,?_⟩;by_cases O:L.drop k=[]
 ·exact .inl O
 have r:k<L.length:=Nat.lt_of_not_le fun q=>O (List.drop_eq_nil_of_le q)
 rcases J with rfl|⟨-,q⟩
 ·rcases D with D|⟨g',U,e,q,X⟩
  ·rw[D]at r;simp at r
  ·simp only[Option.some.injEq,Addr.mk.injEq,and_true]at e;obtain⟨rfl,rfl⟩:=e;refine .inr ⟨g,off+k,rfl,q,fun i hi=>?_⟩;obtain⟨x,V,Y⟩:=X (k+i) (by simp at hi;omega);exact⟨x,by rw[Nat.add_assoc];exact V,by rw[qaC];exact Y⟩
 ·omega
attribute [local go_sem] Oper.semAt_some
theorem qdn {w:World}(q:OwnB B w x z)(o:B<=w.heap.size):ListO B (w.alloc (.cells #[x] 24)) (.slice (some ⟨w.heap.size,0,none⟩) 1 1) [z]:=by
 refine⟨[x],⟨rfl,.inr ⟨w.heap.size,1,#[x],rfl,o,Wn w _,Nat.le_refl _,by unfold maxLen;omega,rfl,rfl⟩⟩,fun i hi=>?_⟩;obtain rfl:i=0:=by simpa using hi
 exact q.kb (KB.of_below (Br.alloc Nl _) o)
theorem JO (h: ∀z∈L,∀a∈z,0<=a/\a<=255): ∀a∈L.flatten,0<=a/\a<=255:=fun a o=>by
 obtain⟨z,q,o⟩:=List.mem_flatten.1 o;exact h z q a o
theorem ListH.bytes {w:World}{v:Value}(h:ListH w v L): ∀z∈L,∀a∈z,0<=a/\a<=255:=fun z o a G=>by
 obtain⟨J,I, -, -, -,r⟩:=h;rcases r with rfl|⟨g,off, -, -,D⟩
 ·cases o
 ·obtain⟨i,hi,rfl⟩:=List.mem_iff_getElem.1 o;obtain⟨x, -,q⟩:=D i hi;have e:qC L i=L[i]:=by unfold qC;rw[Lg,List.getElem?_eq_getElem hi];rfl
  rw[e]at q;exact q.1 a G
theorem zB {w:World}(o: ∀a∈z,0<=a/\a<=255)(h:w.ownsRow B 5 1 x n (z.map qp)):OwnB B w x z:=⟨o,Yw h⟩
theorem qjp (t:TreeV)(h:t.validE=0)(row:Nat)(hr:row<=255)(L:List (List Int))(v:Value)(w:World)(hL:ListH w v L)(hn:L.flatten.length<=1073741824)(a4:L.length<=16777216)(av:L≠[]):
  Calls Tryz.prog 145 #[t.val,.int .i64 row,v] w fun e w'=> ∃u,e= .returned (.tuple #[u,.bool (t.rootZ row L.length)])/\ListO w.heap.size w' u (t.upZ row L)/\Below w.heap.size w w':=by
 obtain⟨q,G⟩:=Ex w.heap.size;have aa:=qn h;have aS:=aa.2.2.2.2.2.1;have bg:2<=t.p/\t.p<=255:=⟨aa.2.2.2.2.2.2.1,aa.2.2.2.2.2.2.2.1⟩;have o:t.rootZ row L.length=decide (t.f=0\/(row:Int)=t.p - 1\/(L.length:Int)<=t.f):=rfl;have az:t.upZ row L=if t.rootZ row L.length then [L.flatten] else ZN t.fn L (qP L.length t.fn):=rfl
 have aO:(t.fn:Int)=t.f:=by unfold TreeV.fn;omega
 generalize t.upZ row L=U at*;generalize t.rootZ row L.length=rt at*;generalize t.fn=fn at*;obtain⟨k,d,f,p,l,i,ka,kl,kc,sa,sl,sc,pa,pl,pc⟩:=t;unfold TreeV.val;simp only at*
 clear aa h;have aY:0<L.length:=List.length_pos_iff.2 av;have HL:=hid hL;have aE:=hid hL.bytes;have HN:=hid hn;have ak:=hid az;obtain⟨a,aI,rfl,bd,bf, -⟩:=hL;clear az av hn;have au:Below q w (w.alloc (.cells #[.int .i64 k,.int .i64 d,.int .i64 f,.int .i64 p,.int .u32 l,.int .i64 i,.slice ka kl kc,.slice sa sl sc,.slice pa pl pc] 26)):=by rw[<-G];exact Br.alloc Nl _
 have S:=Wn w (.cells #[.int .i64 k,.int .i64 d,.int .i64 f,.int .i64 p,.int .u32 l,.int .i64 i,.slice ka kl kc,.slice sa sl sc,.slice pa pl pc] 26);rw[G]at S;go_enter Tryz.func145,Tryz.ntmps145
 go_upto_region 1 with(fail)
 generalize w.alloc (.cells #[.int .i64 k,.int .i64 d,.int .i64 f,.int .i64 p,.int .u32 l,.int .i64 i,.slice ka kl kc,.slice sa sl sc,.slice pa pl pc] 26)=wA at*;have c2:wA.cell? ⟨q,2,none⟩=some (.int .i64 f):=qd S 2;have c3:wA.cell? ⟨q,3,none⟩=some (.int .i64 p):=qd S 3;have aN:q<wA.heap.size:=(Ai S).1;have aR:=hid S;have al:=hid au;clear S au;go_cut [2,3,26] from 1 (fun x y u W=>x= .slice a L.length aI/\y= .pointer (some ⟨q,0,none⟩)/\u= .bool rt/\wA=W)
 case first=>
  by_cases h1:f=0
  case pos=>
   obtain rfl:rt=true:=by rw[o];exact decide_eq_true (.inl h1)
   have q1:(f==0)=true:=by rw[beq_iff_eq];exact h1
   clear o;subst h1;go_wp2
   go_meet
   case rel=>exact⟨rfl,rfl,rfl,by trivial⟩
  by_cases h2:(row:Int)=p - 1
  case pos=>
   obtain rfl:rt=true:=by rw[o];exact decide_eq_true (.inr (.inl h2))
   clear o;go_wp2
   go_meet
   case rel=>exact⟨rfl,rfl,rfl,by trivial⟩
  by_cases h3:(L.length:Int)<=f
  case pos=>
   obtain rfl:rt=true:=by rw[o];exact decide_eq_true (.inr (.inr h3))
   clear o;go_wp2
   go_meet
   case rel=>exact⟨rfl,rfl,rfl,by trivial⟩
  obtain rfl:rt=false:=by rw[o];exact decide_eq_false (by rintro(h|h|h);exact h1 h;exact h2 h;exact h3 h)
  clear o;go_wp2
  go_meet
  case rel=>exact⟨rfl,rfl,by simp[h1,h2],by trivial⟩
 case rest=>
  obtain⟨rfl,rfl,rfl,rfl⟩:=hcut;clear c3;have aL:=HL.out.below (G▸al.out);obtain⟨ib,aw,aC,aA,ax⟩:=info_parts Yn
  cases rt
  case true=>
   go_wp2_with fail
   refine(qaG L _ _ aL (by have:=HN.out;omega)).mono ?_;rintro e w2 ⟨u,rfl,ho,hb⟩;have X:=zB (JO aE.out) ho;have hB:=al.out.trans (hb.mono (by omega));have HO:=hid (qdn (X.le (show q<=wA.heap.size by omega)) (by have:=hb.size;omega));have I:=hid (hB.alloc (by have:=hb.size;omega) (.cells #[u] 24));have hu:=X.one;obtain⟨a6,n6,k6,rfl⟩:=qr ho;clear ho hb X hB hu;go_wp2_with ((with_reducible show wpList _ _ _ (Oper.mk _ (Op.buildSlice _ _ _) _ _ _ _::_) _ _);refine QU rfl _ rfl _ _ _ rfl ?_)
   go_ret2
   exact⟨_,rfl,by rw[G,ak.out,if_pos trivial];exact HO.out,by rw[G];exact I.out⟩
  case false=>
   have aT: ¬(f=0\/(row:Int)=p - 1\/(L.length:Int)<=f):=of_decide_eq_false o.symm;have be:2<=f/\f<=255/\f<L.length:=by omega
   have aF:=hid (show U=ZN fn L (qP L.length fn) from ak.out.trans (if_neg (by simp)));clear o aS aT ak;subst aO;go_wp2_with fail
   go_loopw [2,8] (fun x s wr=> ∃j:Nat,j<=qP L.length fn/\ListH w x (L.drop (j*fn))/\ListO (q+1) wr s (ZN fn L j)/\Below q w wr/\wr.heap[q]? =some (.cells #[.int .i64 k,.int .i64 d,.int .i64 (fn:Int),.int .i64 p,.int .u32 l,.int .i64 i,.slice ka kl kc,.slice sa sl sc,.slice pa pl pc] 26 (0,0))) (fun x _ _=>qfd x)
   case atStart=>exact⟨0,Nat.zero_le _,by rw[Nat.zero_mul];exact HL.out,ListO.nil _ _,al.out,aR.out⟩
   case round=>
    obtain⟨j,hj,hx,ho,hb,ab⟩:=hrel;have c2:wr.cell? ⟨q,2,none⟩=some (.int .i64 (fn:Int)):=qd ab 2;have aN:q<wr.heap.size:=(Ai ab).1;have ar:=hid ab;clear ab;have an:1<=fn:=by omega
    obtain⟨a1,cp,rfl,aH,bb, -⟩:=id hx;have HX:=hid hx;have HO:=hid ho;have HB:=hid hb;have ad:(L.drop (j*fn)).length=L.length - j*fn:=by simp
    obtain⟨m,hm⟩:=Ex ((L.drop (j*fn)).length);rw[hm]at aH ad⊢;have O:=hid ad;clear hx ho hb ad;by_cases bi:0<m
    case pos=>
     have bc:j<qP L.length fn:=(Zu an).2 (by have:=O.out;omega);obtain⟨k,hk⟩:=Ex (min fn m);have HK:=hid hk;have a9:1<=k/\k<=m/\k<=cp:=by omega
     have a3:min (fn:Int) (m:Int)=(k:Int):=by omega
     have a7:0<(m:Int):=by omega
     clear hk;obtain⟨g,off,rfl,a5, -⟩: ∃g off,a1=some ⟨g,off,none⟩/\g<w.heap.size/\True:=by
      obtain⟨a',c',e, -, -,h3⟩:=HX.out;rcases h3 with h3|⟨g,off,rfl,h4, -⟩
      ·rw[h3]at hm;simp at hm;omega
      ·simp only[Value.slice.injEq]at e;exact⟨g,off,e.1,h4,trivial⟩
     have af:piece fn L j=(L.drop (j*fn)).take k:=by
      unfold piece;by_cases h:fn<=m
      ·rw[show k=fn by have:=HK.out;omega]
      ·rw[show k=m by have:=HK.out;omega,List.take_of_length_le (by omega),List.take_of_length_le (by omega)]
     have aB:=hid af;have ao:=hid ((ListH.take HX.out (k:=k) (by omega)).below (G▸HB.out));have aj:=Nat.le_trans (Y8 (qaz fn L j)) HN.out;rw[af]at aj;have aq:=hid aj;have aJ:(k:Int)<=(cp:Int)/\(k:Int)<=(m:Int)/\0<=(k:Int):=by omega
     obtain⟨aV,aU,aW⟩:=aJ;obtain⟨vs,Z,ae⟩:=HO.out;have ay:vs.length=j:=by have:=Z.1;rw[Qm]at this;omega
     rw[Qm]at Z ae;have aD:=hid ae;obtain⟨a8,n8,k8,rfl⟩:=qr Z;have ap:=hid Z;have aZ:j+1<=16777217:=by have:=Yy (n:=L.length) an;omega
     clear af aj Z ae;have HM:=hid hm;have Y:q+1<=wr.heap.size:=by omega
     have ac:=hid (show ∀z∈(L.drop (j*fn)).take k,∀a∈z,0<=a/\a<=255 from fun z hz=>aE.out z (List.mem_of_mem_drop (List.mem_of_mem_take hz)));have aX:((L.drop (j*fn)).take k).length=k:=by rw[List.length_take];omega
     clear hm;by_cases aQ:k=cp
     case pos=>
      subst aQ;go_wp2_with fail
      refine(qaG ((L.drop (j*fn)).take k) _ _ ao.out (by have:=aq.out;omega)).mono ?_;rintro e w2 ⟨u,rfl,J,r⟩;have X:=zB (JO ac.out) J;have ah:=hid (X.le Y);have aP:=r.size;have am:=hid (KB.of_below r Y);have ag:=hid (show w2.ownsRow (q+1) 24 1 (.slice a8 n8 k8) j vs from qi ap.out (fun g _ g2=>r.block g g2));obtain⟨a6,n6,k6,rfl⟩:=qr J;have I:=hid r;clear J r X;go_wp2_with (first|((with_reducible show wpList _ _ _ (Oper.mk _ (Op.buildSlice _ _ _) _ _ _ _::_) _ _);refine QU rfl _ rfl _ _ _ rfl ?_)|(at_builtin;refine QO rfl _ _ _ rfl (q+1) 24 (by decide) ib (.slice none 0 0) 1 24 Tryz.underlying67 aw aC aA ax rfl (by decide) (.slice a8 n8 k8) j vs [.slice a6 n6 k6] _ rfl ag.out rfl rfl (by simp[Value.oneCell']) (by unfold maxLen;omega) (by omega) (by omega) ?_;intro v' w' V D aG))
      have bh:m=k:=by omega
      have ai:(L.drop (j*fn)).drop k=L.drop ((j+1)*fn):=by
       rw[List.drop_drop,Nat.add_mul,Nat.one_mul,List.drop_eq_nil_of_le (by have:=O.out;omega),List.drop_eq_nil_of_le (by have:=O.out;have:=HK.out;omega)]
      refine⟨⟨j+1,by omega,?_,?_,HB.out.trans ((I.out.mono (by omega)).trans (D.below.mono (by omega))),(D.block q (by omega)).trans (qf ar.out I.out)⟩,by simp[qfd];omega⟩
      ·rw[<-ai];exact ListH.drop HX.out (by have:=HM.out;omega) (by have:=HM.out;omega) (by omega) g off rfl (.inr ⟨rfl,Nat.le_refl _⟩)
      ·rw[qcn];refine ListO.snoc (w:=w2) (vs:=vs) (x:= .slice a6 n6 k6) (fun i hi=>?_) (by rw[Qm];exact ay) (by rw[aB.out];exact ah.out) (by rw[Qm];exact V) D;rw[Qm]at hi;exact(aD.out i hi).kb am.out
     go_wp2_with fail
     refine(qaG ((L.drop (j*fn)).take k) _ _ ao.out (by have:=aq.out;omega)).mono ?_;rintro e w2 ⟨u,rfl,J,r⟩;have X:=zB (JO ac.out) J;have ah:=hid (X.le Y);have aP:=r.size;have am:=hid (KB.of_below r Y);have ag:=hid (show w2.ownsRow (q+1) 24 1 (.slice a8 n8 k8) j vs from qi ap.out (fun g _ g2=>r.block g g2));obtain⟨a6,n6,k6,rfl⟩:=qr J;have I:=hid r;clear J r X;go_wp2_with (first|((with_reducible show wpList _ _ _ (Oper.mk _ (Op.buildSlice _ _ _) _ _ _ _::_) _ _);refine QU rfl _ rfl _ _ _ rfl ?_)|(at_builtin;refine QO rfl _ _ _ rfl (q+1) 24 (by decide) ib (.slice none 0 0) 1 24 Tryz.underlying67 aw aC aA ax rfl (by decide) (.slice a8 n8 k8) j vs [.slice a6 n6 k6] _ rfl ag.out rfl rfl (by simp[Value.oneCell']) (by unfold maxLen;omega) (by omega) (by omega) ?_;intro v' w' V D aG))
     have ai:(L.drop (j*fn)).drop k=L.drop ((j+1)*fn):=by
      rw[List.drop_drop,Nat.add_mul,Nat.one_mul];by_cases h:fn<=m
      ·rw[show k=fn by have:=HK.out;omega]
      ·rw[List.drop_eq_nil_of_le (by have:=O.out;have:=HK.out;omega),List.drop_eq_nil_of_le (by have:=O.out;have:=HK.out;omega)]
     refine⟨⟨j+1,by omega,?_,?_,HB.out.trans ((I.out.mono (by omega)).trans (D.below.mono (by omega))),(D.block q (by omega)).trans (qf ar.out I.out)⟩,by simp[qfd];omega⟩
     ·rw[<-ai];exact ListH.drop HX.out (by have:=HM.out;omega) (by have:=HM.out;omega) (by omega) g off rfl (.inl rfl)
     ·rw[qcn];refine ListO.snoc (w:=w2) (vs:=vs) (x:= .slice a6 n6 k6) (fun i hi=>?_) (by rw[Qm];exact ay) (by rw[aB.out];exact ah.out) (by rw[Qm];exact V) D;rw[Qm]at hi;exact(aD.out i hi).kb am.out
    have aM:m=0:=by omega
    have ba:qP L.length fn<=j:=Nat.le_of_not_lt fun h=>by
     have:=(Zu an).1 h
     have:=O.out
     omega
    obtain rfl:j=qP L.length fn:=by omega
    subst aM;clear hm;have aK:=hid (HO.out.le (show q<=q+1 by omega));go_wp2
    go_ret2
    exact⟨_,rfl,by rw[G,aF.out];exact aK.out,by rw[G];exact HB.out⟩
theorem qku (t:TreeV)(h:t.validE=0)(hl:0<=t.l/\t.l<=4294967295)(zs:List Int)(v:Value)(w:World)(hv:Hold w v zs)(hn:zs.length<=16777216):
  Calls Tryz.prog 116 #[t.val,v] w fun e w'=> ∃u,e= .returned u/\ListO w.heap.size w' u (QH t.ln zs)/\Below w.heap.size w w':=by
 obtain⟨I,J⟩:=Ex w.heap.size;have aF:=qn h;have aR:t.l≠0:=aF.2.2.2.2.2.2.2.2.1;have aV:(t.ln:Int)=t.l:=by unfold TreeV.ln;omega
 have au:1<=t.ln:=by omega
 have aY:(t.ln:Int)<=4294967295:=by omega
 generalize t.ln=ln at*;obtain⟨k,d,f,p,l,i,ka,kl,kc,sa,sl,sc,pa,pl,pc⟩:=t;unfold TreeV.val;simp only at*
 clear aF h hl aR;subst aV;obtain⟨ib,aC,aI,aG,aD⟩:=info_parts Yn;obtain⟨i0,hi,aW,ar,aT⟩:=info_parts Qu;have HV:=hid hv;obtain⟨a,a5,rfl,bh,bi⟩:=hv.slice;clear hv;have aA:Below I w (w.alloc (.cells #[.int .i64 k,.int .i64 d,.int .i64 f,.int .i64 p,.int .u32 (ln:Int),.int .i64 i,.slice ka kl kc,.slice sa sl sc,.slice pa pl pc] 26)):=by rw[<-J];exact Br.alloc Nl _
 have ai:=Wn w (.cells #[.int .i64 k,.int .i64 d,.int .i64 f,.int .i64 p,.int .u32 (ln:Int),.int .i64 i,.slice ka kl kc,.slice sa sl sc,.slice pa pl pc] 26);rw[J]at ai;go_enter Tryz.func116,Tryz.ntmps116
 go_upto_region 1 with(fail)
 generalize w.alloc (.cells #[.int .i64 k,.int .i64 d,.int .i64 f,.int .i64 p,.int .u32 (ln:Int),.int .i64 i,.slice ka kl kc,.slice sa sl sc,.slice pa pl pc] 26)=wA at*;have c4:wA.cell? ⟨I,4,none⟩=some (.int .u32 (ln:Int)):=qd ai 4;have ba:I<wA.heap.size:=(Ai ai).1;have aJ:=hid aA;clear ai aA;by_cases h0:zs=[]
 case pos=>
  subst h0;have HR:=hid (qdn (B:=I) (w:=wA) (x:= .slice none 0 0) (z:=[]) ⟨fun _ h=>by simp at h,.inl ⟨rfl,rfl⟩⟩ (by omega));have HB:=hid (aJ.out.alloc (show I<=wA.heap.size by omega) (.cells #[.slice none 0 0] 24));go_wp2_with ((with_reducible show wpList _ _ _ (Oper.mk _ (Op.buildSlice _ _ _) _ _ _ _::_) _ _);refine QU rfl _ rfl _ _ _ rfl ?_)
  go_ret
  exact⟨_,rfl,by rw[J];exact HR.out,by rw[J];exact HB.out⟩
 have a6:0<zs.length:=List.length_pos_iff.2 h0;have aL:QH ln zs=Zb ln zs (qP zs.length ln):=if_neg h0;have aQ:=hid aL;have a4:((zs.length:Int)==0)=false:=beq_eq_false_iff_ne.2 (by omega);clear h0 aL;go_wp2_with fail
 go_loopw [1,5] (fun x s wr=> ∃j:Nat,j<=qP zs.length ln/\Hold w x (zs.drop (j*ln))/\ListO I wr s (Zb ln zs j)/\Below I w wr) (fun x _ _=>qfd x)
 case atStart=>exact⟨0,Nat.zero_le _,by rw[Nat.zero_mul];exact HV.out,ListO.nil _ _,aJ.out⟩
 case round=>
  obtain⟨j,hj,hx,ho,hb⟩:=hrel;obtain⟨a1,cp,rfl,aN,bf⟩:=id hx.slice;have HX:=hid hx;have HO:=hid ho;have HB:=hid hb;have ak:(zs.drop (j*ln)).length=zs.length - j*ln:=by simp
  obtain⟨m,hm⟩:=Ex ((zs.drop (j*ln)).length);rw[hm]at aN ak⊢;have O:=hid ak;have X:I<=wr.heap.size:=by have:=hb.size;omega
  clear hx ho hb ak;by_cases bj:0<m
  case pos=>
   have bg:j<qP zs.length ln:=(Zu au).2 (by have:=O.out;omega);obtain⟨k,hk⟩:=Ex (min ln m);have HK:=hid hk;have a7:m<=16777216:=by have:=O.out;omega
   have bd:1<=k/\k<=m/\k<=cp:=by omega
   have bb:min (ln:Int) (m:Int)=(k:Int):=by omega
   have bc:0<(m:Int):=by omega
   obtain⟨g,off,rfl⟩:=qaJ HX.out (by rintro e;rw[e]at hm;simp at hm;omega);have aw:piece ln zs j=(zs.drop (j*ln)).take k:=by
    unfold piece;by_cases h:ln<=m
    ·rw[show k=ln by have:=HK.out;omega]
    ·rw[show k=m by have:=HK.out;omega,List.take_of_length_le (by omega),List.take_of_length_le (by omega)]
   have aH:=hid aw;have av:((zs.drop (j*ln)).take k).length=k:=by rw[List.length_take];omega
   have q:=hid av;have ax:=hid ((HX.out.below (J▸HB.out)).src);have HZ:=hid (show ∀z∈(zs.drop (j*ln)).take k,0<=z/\z<=255 from fun z hz=>HX.out.1 z (List.mem_of_mem_take hz));obtain⟨vs,ah,al⟩:=HO.out;have aE:vs.length=j:=by have:=ah.1;rw[Qx]at this;omega
   rw[Qx]at ah al;have aK:=hid al;obtain⟨a8,n8,k8,rfl⟩:=qr ah;have az:=hid ah;have a9:j+1<=16777217:=by have:=Yy (n:=zs.length) au;omega
   have aO:(k:Int)<=(cp:Int)/\(k:Int)<=(m:Int)/\0<=(k:Int):=by omega
   obtain⟨aZ,aX,a3⟩:=aO;have HM:=hid hm;have aq:=fun W:World=>run_make (P:=Tryz.prog) W 24 5 i0 (.int .u8 0) Tryz.underlying24 hi aW .i64 .i64 k k (by omega) (by omega) (by rw[aT];omega) (by omega)
   simp only[ar]at aq;have ay:madeCells Kc k=(List.replicate k (.int .u8 0)).toArray:=by
    apply Array.toList_inj.1
    rw[toList_madeCells_one]
   have aB:=hid ay;clear hk aw av ah al hm ay;by_cases aU:k=cp
   case pos=>
    subst aU;go_upto_region 8 with(fail)
    obtain⟨G,r⟩:=Ex wr.heap.size;have ae:(wr.alloc (.cells (madeCells Kc k) 5)).heap[G]? =some (.cells (List.replicate k (.int .u8 0)).toArray 5 (0,0)):=by rw[<-aB.out,<-r];exact Wn _ _
    have U:Below G wr (wr.alloc (.cells (madeCells Kc k) 5)):=by rw[<-r];exact Br.alloc Nl _
    rw[r];generalize wr.alloc (.cells (madeCells Kc k) 5)=w3 at*;have ac:=ax.out.below (r▸U);have af: ∀(i:Nat) (v:Value),(((zs.drop (j*ln)).take k).map qp)[i]? =some v->w3.cell? ((⟨g,off,none⟩:Addr).add i)=some v:=fun i v D=>by
     rcases ac.2.2 with⟨e, -⟩|⟨ad,c,e,h2⟩
     ·cases e
     ·simp only[Value.slice.injEq,Option.some.injEq]at e;obtain⟨rfl, -, -⟩:=e;refine h2 i v ?_;rw[List.getElem?_map]at D⊢;by_cases ag:i<k
      ·rw[List.getElem?_take,if_pos ag]at D;exact D
      ·rw[List.getElem?_take,if_neg ag]at D;cases D
    clear aq;go_upto_region 9 with((with_reducible show wpList _ _ _ (Oper.mk (some 27) _ _ _ _ _::_) _ _);refine wpList_copy_splice rfl _ _ _ _ rfl 5 Tryz.underlying24 (by rw[hi];simp[ar]) _ _ _ _ _ _ rfl rfl G 0 (List.replicate k (.int .u8 0)) 5 ae (((zs.drop (j*ln)).take k).map qp) (by rw[List.length_map,q.out];exact(Nat.min_eq_right (by omega)).symm) (fun _=>⟨rfl,⟨g,off,none⟩,rfl,af⟩) (by rw[List.length_map,q.out,List.length_replicate];omega) (fun u hu=>by obtain⟨z, -,rfl⟩:=List.mem_map.1 hu;rfl) G wr U Nl ?_;intro Y aa ab)
    have V:splice (List.replicate k (.int .u8 0)) 0 (((zs.drop (j*ln)).take k).map qp)=((zs.drop (j*ln)).take k).map qp:=by
     have:=q.out
     simp only[splice,List.take_zero,List.nil_append,List.length_map,this,Nat.zero_add,List.drop_replicate,Nat.sub_self,List.replicate_zero,List.append_nil]
    have aj:=hid (show OwnB I Y (.slice (some ⟨G,0,none⟩) k k) ((zs.drop (j*ln)).take k) from zB HZ.out ⟨by rw[List.length_map,q.out,Nat.mul_one],.inr ⟨G,k,_,rfl,by omega,aa.out,Nat.le_refl _,by unfold maxLen;omega,by rw[V,List.size_toArray,List.length_map,q.out,Nat.mul_one],by rw[V,List.toList_toArray,List.take_of_length_le (by rw[List.length_map,q.out,Nat.mul_one];omega)]⟩⟩);have o:Below wr.heap.size wr Y:=r▸ab;have am:=hid (KB.of_below o X);have an:=hid o;have ap:=hid (show Y.ownsRow I 24 1 (.slice a8 n8 k8) j vs from qi az.out (fun g _ g2=>o.block g g2));have aP:=o.size;clear V ac af aa ab o ae U;go_wp2_with (first|((with_reducible show wpList _ _ _ (Oper.mk _ (Op.buildSlice _ _ _) _ _ _ _::_) _ _);refine QU rfl _ rfl _ _ _ rfl ?_)|(at_builtin;refine QO rfl _ _ _ rfl I 24 (by decide) ib (.slice none 0 0) 1 24 Tryz.underlying67 aC aI aG aD rfl (by decide) (.slice a8 n8 k8) j vs [.slice (some ⟨G,0,none⟩) k k] _ rfl ap.out rfl rfl (by simp[Value.oneCell']) (by unfold maxLen;omega) (by omega) (by omega) ?_;intro v' w' Z S aM))
    have ao:(zs.drop (j*ln)).drop k=zs.drop ((j+1)*ln):=by
     rw[List.drop_drop,Nat.add_mul,Nat.one_mul];by_cases h:ln<=m
     ·rw[show k=ln by have:=HK.out;omega]
     ·rw[List.drop_eq_nil_of_le (by have:=O.out;have:=HK.out;omega),List.drop_eq_nil_of_le (by have:=O.out;have:=HK.out;omega)]
    refine⟨⟨j+1,by omega,?_,?_,HB.out.trans ((an.out.mono X).trans S.below)⟩,by simp[qfd];omega⟩
    ·rw[<-ao];exact Jc HX.out (by have:=HM.out;omega) (by have:=HM.out;omega) (by omega) g off rfl (.inr ⟨rfl,rfl⟩)
    ·rw[qa7];refine ListO.snoc (w:=Y) (vs:=vs) (x:= .slice (some ⟨G,0,none⟩) k k) (fun i hi=>?_) (by rw[Qx];exact aE) (by rw[aH.out];exact aj.out) (by rw[Qx];exact Z) S;rw[Qx]at hi;exact(aK.out i hi).kb am.out
   go_upto_region 8 with(fail)
   obtain⟨G,r⟩:=Ex wr.heap.size;have ae:(wr.alloc (.cells (madeCells Kc k) 5)).heap[G]? =some (.cells (List.replicate k (.int .u8 0)).toArray 5 (0,0)):=by rw[<-aB.out,<-r];exact Wn _ _
   have U:Below G wr (wr.alloc (.cells (madeCells Kc k) 5)):=by rw[<-r];exact Br.alloc Nl _
   rw[r];generalize wr.alloc (.cells (madeCells Kc k) 5)=w3 at*;have ac:=ax.out.below (r▸U);have af: ∀(i:Nat) (v:Value),(((zs.drop (j*ln)).take k).map qp)[i]? =some v->w3.cell? ((⟨g,off,none⟩:Addr).add i)=some v:=fun i v D=>by
    rcases ac.2.2 with⟨e, -⟩|⟨ad,c,e,h2⟩
    ·cases e
    ·simp only[Value.slice.injEq,Option.some.injEq]at e;obtain⟨rfl, -, -⟩:=e;refine h2 i v ?_;rw[List.getElem?_map]at D⊢;by_cases ag:i<k
     ·rw[List.getElem?_take,if_pos ag]at D;exact D
     ·rw[List.getElem?_take,if_neg ag]at D;cases D
   clear aq;go_upto_region 9 with((with_reducible show wpList _ _ _ (Oper.mk (some 27) _ _ _ _ _::_) _ _);refine wpList_copy_splice rfl _ _ _ _ rfl 5 Tryz.underlying24 (by rw[hi];simp[ar]) _ _ _ _ _ _ rfl rfl G 0 (List.replicate k (.int .u8 0)) 5 ae (((zs.drop (j*ln)).take k).map qp) (by rw[List.length_map,q.out];exact(Nat.min_eq_right (by omega)).symm) (fun _=>⟨rfl,⟨g,off,none⟩,rfl,af⟩) (by rw[List.length_map,q.out,List.length_replicate];omega) (fun u hu=>by obtain⟨z, -,rfl⟩:=List.mem_map.1 hu;rfl) G wr U Nl ?_;intro Y aa ab)
   have V:splice (List.replicate k (.int .u8 0)) 0 (((zs.drop (j*ln)).take k).map qp)=((zs.drop (j*ln)).take k).map qp:=by
    have:=q.out
    simp only[splice,List.take_zero,List.nil_append,List.length_map,this,Nat.zero_add,List.drop_replicate,Nat.sub_self,List.replicate_zero,List.append_nil]
   have aj:=hid (show OwnB I Y (.slice (some ⟨G,0,none⟩) k k) ((zs.drop (j*ln)).take k) from zB HZ.out ⟨by rw[List.length_map,q.out,Nat.mul_one],.inr ⟨G,k,_,rfl,by omega,aa.out,Nat.le_refl _,by unfold maxLen;omega,by rw[V,List.size_toArray,List.length_map,q.out,Nat.mul_one],by rw[V,List.toList_toArray,List.take_of_length_le (by rw[List.length_map,q.out,Nat.mul_one];omega)]⟩⟩);have o:Below wr.heap.size wr Y:=r▸ab;have am:=hid (KB.of_below o X);have an:=hid o;have ap:=hid (show Y.ownsRow I 24 1 (.slice a8 n8 k8) j vs from qi az.out (fun g _ g2=>o.block g g2));have aP:=o.size;clear V ac af aa ab o ae U;go_wp2_with (first|((with_reducible show wpList _ _ _ (Oper.mk _ (Op.buildSlice _ _ _) _ _ _ _::_) _ _);refine QU rfl _ rfl _ _ _ rfl ?_)|(at_builtin;refine QO rfl _ _ _ rfl I 24 (by decide) ib (.slice none 0 0) 1 24 Tryz.underlying67 aC aI aG aD rfl (by decide) (.slice a8 n8 k8) j vs [.slice (some ⟨G,0,none⟩) k k] _ rfl ap.out rfl rfl (by simp[Value.oneCell']) (by unfold maxLen;omega) (by omega) (by omega) ?_;intro v' w' Z S aM))
   have ao:(zs.drop (j*ln)).drop k=zs.drop ((j+1)*ln):=by
    rw[List.drop_drop,Nat.add_mul,Nat.one_mul];by_cases h:ln<=m
    ·rw[show k=ln by have:=HK.out;omega]
    ·rw[List.drop_eq_nil_of_le (by have:=O.out;have:=HK.out;omega),List.drop_eq_nil_of_le (by have:=O.out;have:=HK.out;omega)]
   refine⟨⟨j+1,by omega,?_,?_,HB.out.trans ((an.out.mono X).trans S.below)⟩,by simp[qfd];omega⟩
   ·rw[<-ao];exact Jc HX.out (by have:=HM.out;omega) (by have:=HM.out;omega) (by omega) g off rfl (.inl rfl)
   ·rw[qa7];refine ListO.snoc (w:=Y) (vs:=vs) (x:= .slice (some ⟨G,0,none⟩) k k) (fun i hi=>?_) (by rw[Qx];exact aE) (by rw[aH.out];exact aj.out) (by rw[Qx];exact Z) S;rw[Qx]at hi;exact(aK.out i hi).kb am.out
  have aS:m=0:=by omega
  have be:qP zs.length ln<=j:=Nat.le_of_not_lt fun h=>by
   have:=(Zu au).1 h
   have:=O.out
   omega
  obtain rfl:j=qP zs.length ln:=by omega
  subst aS;clear hm;go_wp2
  go_ret
  exact⟨_,rfl,by rw[J,aQ.out];exact HO.out,by rw[J];exact HB.out⟩
