/- A block of parameters out of its numbers, by the program. No condition. -/
import Derived.Test.YthjoojnlnlmljaaGreatF22
import Derived.Test.YthjoojnlnlmljaaGreatF16
import Derived.Test.YthjoojnlnlmljaaGreatF23
import Derived.Test.YthjoojnlnlmljaaGreatF21
import Derived.Test.YthjoojnlnlmljaaGreatF20
import Derived.Test.YthjoojnlnlmljaaGreatF04
set_option linter.all false
set_option maxRecDepth 100000
set_option maxHeartbeats 8000000
namespace Go.Proofs.YthjoojnlnlmljaaGreat
open Go.ChangeShapes Go.WideShapes Go.ChangeAt Go.RowKit Go.Joins Go.Shelf Go.Maps
open Go.Lib (hid)
attribute [local go_sem] Oper.semAt_some
theorem qgk {big:Bool}{v:Nat→Nat}(I:ParOk big v)(a1 a2:Option Addr){o q:Nat}(c1 c2:Nat)(G:o≤sB big)(D:q≤sB big)(w:World):
  Calls Tryz.prog 130 #[.int .i64 (kB big),parN v (.slice a1 o c1) (.slice a2 q c2)] w fun e w'=>e= .returned (.int .i64 0)∧Below w.heap.size w w':=by
 unfold parN;rw[I.x0];exact qa9 big _ _ _ _ _ _ _ _ a1 a2 o q c1 c2 w I.p G D
theorem qgh (big:Bool)(v:Nat→Nat)(z1 z2:List Int)(sa pe:Value)(w:World)(hP:ParOk big v)(h1:Hold w sa z1)(h2:Hold w pe z2)(U:z1.length≤sB big)(X:z2.length≤sB big):
  Calls Tryz.prog 100 #[.int .i64 (kB big),parN v sa pe] w fun e w'=>(∃r,e= .returned (.tuple #[r,.int .i64 0])∧w'.ownsRow w.heap.size 5 1 r (mB big) ((QI big v z1 z2).map qp))∧Below w.heap.size w w':=by
 obtain⟨a1,c1,rfl,bA,bx⟩:=h1.slice;obtain⟨a2,c2,rfl,bM,bG⟩:=h2.slice;obtain⟨i0,hi,bD,aI,bK⟩:=info_parts Qy;obtain⟨o,ah⟩:=Ex w.heap.size;have aP:=hid (qgk hP a1 a2 c1 c2 U X);have aT:Below o w (w.alloc (.cells #[.int .i64 (v 1:Nat),.int .i64 (v 2:Nat),.int .i64 (v 3:Nat),.int .i64 (v 4:Nat),.int .u32 (v 5:Nat),.int .u64 (v 6:Nat),.int .u32 (v 7:Nat),.int .i64 (v 8:Nat),.int .i64 (v 9:Nat),.slice a1 z1.length c1,.slice a2 z2.length c2] 171)):=by rw[←ah];exact Br.alloc Nl _
 have af:=Wn w (.cells #[.int .i64 (v 1:Nat),.int .i64 (v 2:Nat),.int .i64 (v 3:Nat),.int .i64 (v 4:Nat),.int .u32 (v 5:Nat),.int .u64 (v 6:Nat),.int .u32 (v 7:Nat),.int .i64 (v 8:Nat),.int .i64 (v 9:Nat),.slice a1 z1.length c1,.slice a2 z2.length c2] 171);rw[ah]at af;have bQ:=hid h1;have bu:=hid h2;have ax:=hid hP;have av:=hid U;have az:=hid X;clear hP h1 h2 U X bA bx bM bG;unfold parN yK;unfold parN yK at aP;go_enter Tryz.func100,Tryz.ntmps100
 go_upto_region 1 with(fail)
 generalize w.alloc (.cells #[.int .i64 (v 1:Nat),.int .i64 (v 2:Nat),.int .i64 (v 3:Nat),.int .i64 (v 4:Nat),.int .u32 (v 5:Nat),.int .u64 (v 6:Nat),.int .u32 (v 7:Nat),.int .i64 (v 8:Nat),.int .i64 (v 9:Nat),.slice a1 z1.length c1,.slice a2 z2.length c2] 171)=wA at*;go_wp2_with ((with_reducible show wpList _ _ _ (Oper.mk _ (Op.load 171 _) _ _ _ _::_) _ _);refine wpList_load_row rfl 171 _ rfl o rfl _ _ _ _ af Tryz.underlying171 rfl (by kernel_rfl) ?_)
 refine(aP.out wA).mono ?_;rintro e w1 ⟨rfl,ar⟩;have bc:=qe af ar;have am:=ar.size;have bm:o<wA.heap.size:=(Ai af).1;have bX:o<w1.heap.size:=by omega
 have a4:=hid bc;have a5:=hid (show Below o w w1 from aT.trans (ar.mono (by omega)));clear ar aT af bc am bm aP;go_wp2_with fail
 refine(Zw big _).mono ?_;rintro e w2 ⟨rfl,hw⟩;rw[hw];clear hw w2;obtain⟨M,hM⟩:=Ex (mB big);obtain⟨S,hS⟩:=Ex (sB big);have bL:4*S=M:=by rw[←hM,←hS];cases big<;>rfl
 have bP:8≤S∧S≤16:=by rw[←hS];cases big<;>decide
 rw[hM,hS];have ba:=fun W:World=>run_make (P:=Tryz.prog) W 24 5 i0 (.int .u8 0) Tryz.underlying24 hi bD .i64 .i64 M M (by omega) (by omega) (by rw[bK];omega) (by omega)
 simp only[aI]at ba;go_wp2_with fail
 obtain⟨g,hg⟩:=Ex w1.heap.size;have aV:madeCells #[.int .u8 0] M=((List.replicate M (0:Int)).map qp).toArray:=by
  apply Array.toList_inj.1
  rw[toList_madeCells_one];simp[qp]
 have aY:RowB (w1.alloc (.cells (madeCells #[.int .u8 0] M) 5)) g (Qt big (v 7==0) v 0):=by
  unfold RowB;rw[aV,←hg,←hM];exact Wn _ _
 have a8:Below o w (w1.alloc (.cells (madeCells #[.int .u8 0] M) 5)):=a5.out.alloc (by omega) _;have a6:(w1.alloc (.cells (madeCells #[.int .u8 0] M) 5)).heap[o]? =some (.cells #[.int .i64 (v 1:Nat),.int .i64 (v 2:Nat),.int .i64 (v 3:Nat),.int .i64 (v 4:Nat),.int .u32 (v 5:Nat),.int .u64 (v 6:Nat),.int .u32 (v 7:Nat),.int .i64 (v 8:Nat),.int .i64 (v 9:Nat),.slice a1 z1.length c1,.slice a2 z2.length c2] 171 (0,0)):=by
  rw[Bh _ _ _ (by omega)];exact a4.out
 have bF:(w1.alloc (.cells (madeCells #[.int .u8 0] M) 5)).heap.size=g+1:=by simp[hg]
 rw[hg];generalize w1.alloc (.cells (madeCells #[.int .u8 0] M) 5)=w5 at*;refine(qgA big _).mono ?_;rintro e w6 ⟨⟨rb,rfl,b6,aR⟩,ag⟩;have ce:=ag.size;have bH:=hid (show RowB w6 g (Qt big (v 7==0) v 0) from(ag.block g (by omega)).trans aY);have bJ:=hid ((ag.block o (by omega)).trans a6);have bO:=hid (show Below o w w6 from a8.trans (ag.mono (by omega)));obtain⟨bk,ao,aa⟩:=aR;have bS:rb<w6.heap.size:=(Ai ao).1;have bo:=hid ao;have bq:=hid aa;have cc:o<g∧g<rb:=by omega
 clear aY a6 a8 ag ao aa aV ba a4 a5 bF;go_wp2_with fail
 go_loopw [30] (fun i wr=> ∃k:Nat,i= .int .i64 (k:Nat)∧k≤9∧RowB wr g (Qt big (v 7==0) v k)∧But g w6 wr) (fun i _=>9 - (intOf i).toNat)
 case atStart=>exact⟨0,rfl,by omega,bH.out,But.refl _ _⟩
 case round=>
  obtain⟨k,rfl,hk,aa,hb⟩:=hrel;have HW:=hid aa;have HB:=hid hb;have bN:=hb.size;have ae:=QG big (v 7==0) v k hk;have ay:wr.heap[o]? =some (.cells #[.int .i64 (v 1:Nat),.int .i64 (v 2:Nat),.int .i64 (v 3:Nat),.int .i64 (v 4:Nat),.int .u32 (v 5:Nat),.int .u64 (v 6:Nat),.int .u32 (v 7:Nat),.int .i64 (v 8:Nat),.int .i64 (v 9:Nat),.slice a1 z1.length c1,.slice a2 z2.length c2] 171 (0,0)):=(hb.block o (by omega) (by omega)).trans bJ.out;by_cases aZ:k<9
  case pos=>
   obtain⟨nm,al,q0,q1,q2,q3,q4,q5,q6⟩:=bq.out k aZ;have bj:=hid ((hb.block rb (by omega) (by omega)).trans bo.out);have HQ:=hid (show ∀j,j<5→bk[k*5+j]? =(#[.int .i64 ((k+1:Nat):Int),.int .i64 (atB big (k+1):Nat),.int .i64 (szB big (k+1):Nat),nm,al]:Array Value)[j]? from fun j hj=>by
    rcases(show j=0∨j=1∨j=2∨j=3∨j=4 by omega)with rfl|rfl|rfl|rfl|rfl
    ·exact q0
    ·exact q1
    ·exact q2
    ·exact q3
    ·exact q4)
   have H1:=hid (show(#[.int .i64 ((k+1:Nat):Int),.int .i64 (atB big (k+1):Nat),.int .i64 (szB big (k+1):Nat),nm,al]:Array Value).all (·.oneCell')=true by simp only[List.all_toArray,List.all_cons,List.all_nil,q5,q6];rfl);have b4:(k:Int)<9:=by omega
   have ak:=hid ay;clear q0 q1 q2 q3 q4 q5 q6 aa hb ay;go_upto_region 9 with(first|((with_reducible show wpList _ _ _ (Oper.mk _ (Op.load 219 _) _ _ _ _::_) _ _);refine wpList_plain rfl fun K hK=>qV 219 _ rfl rb (k*5) (by kernel_rfl) 219 bk #[.int .i64 ((k+1:Nat):Int),.int .i64 (atB big (k+1):Nat),.int .i64 (szB big (k+1):Nat),nm,al] (0,0) _ bj.out Tryz.underlying219 rfl (by kernel_rfl) HQ.out (hK _ _ ?_))|((with_reducible show wpList _ _ _ (Oper.mk none (Op.store 219 _ _) _ _ _ _::_) _ _);refine wpList_store_row rfl 219 _ _ rfl wr.heap.size #[.int .i64 ((k+1:Nat):Int),.int .i64 (atB big (k+1):Nat),.int .i64 (szB big (k+1):Nat),nm,al] rfl rfl 219 _ (Wn _ _) (by kernel_rfl) rfl H1.out ?_))
   refine qj ?_;intro Wq aD;obtain⟨q,hq⟩:=Ex wr.heap.size;have aw:Wq.heap[q]? =some (.cells #[.int .i64 ((k+1:Nat):Int),.int .i64 (atB big (k+1):Nat),.int .i64 (szB big (k+1):Nat),nm,al] 219 (0,0)):=by rw[aD,←hq];exact setRow_heap _ _ _ _ _ _ (Wn _ _)
   have ab:Below q wr Wq:=by rw[aD,←hq];exact below_setRow (Br.alloc Nl _) Nl _
   rw[hq];have b7:g<q∧o<q:=by omega
   have be:But g w6 Wq:=HB.out.trans ⟨ab.os,ab.tape,ab.output,ab.size,fun j hj _=>ab.block j (by omega)⟩;have aM:=hid (show RowB Wq g (Qt big (v 7==0) v k) from(ab.block g (by omega)).trans HW.out);have aK:=hid ((ab.block o (by omega)).trans ak.out);have aG:=hid aw;have aF:=hid be;have bI:q<Wq.heap.size:=(Ai aw).1;have c0:Wq.cell? ⟨q,0,none⟩=some (.int .i64 ((k+1:Nat):Int)):=qa aw 0;clear aD hq bj HQ H1 HW HB ak aw ab be;by_cases h7:k=6
   case pos=>
    subst h7;have c6:Wq.cell? ⟨o,6,none⟩=some (.int .u32 (v 7:Nat)):=qa aK.out 6;have bU:o<Wq.heap.size:=by omega
    have bZ:((v 7:Int)==0)=true:=by rw[ax.out.x0];rfl
    go_wp2
    refine⟨⟨7,rfl,by omega,?_,aF.out⟩,by simp[intOf]⟩;have e:Qt big (v 7==0) v 7=Qt big (v 7==0) v 6:=by rw[Qt,if_pos ⟨rfl,by rw[ax.out.x0];rfl⟩]
    rw[e];exact aM.out
   have h8: ¬((k:Int)=6):=by omega
   have bp:szB big (k+1)≤8∧atB big (k+1)+szB big (k+1)≤M:=by
    rw[←hM];rcases(show k=0∨k=1∨k=2∨k=3∨k=4∨k=5∨k=6∨k=7∨k=8 by omega)with rfl|rfl|rfl|rfl|rfl|rfl|rfl|rfl|rfl<;>cases big<;>decide
   have bh:=hid bp;go_upto_region 10 with(fail)
   refine qA (n:=9) (w0:=Wq) (B:=Wq.heap.size) [.v 42 (.slice (some ⟨g,0,none⟩) M M),.v 43 (.pointer (some ⟨q,1,none⟩)),.v 44 (.int .i64 (atB big (k+1):Nat)),.v 45 (.pointer (some ⟨q,2,none⟩)),.v 46 (.int .i64 (szB big (k+1):Nat)),.v 47 (.agg #[.int .i64 (v 1:Nat),.int .i64 (v 2:Nat),.int .i64 (v 3:Nat),.int .i64 (v 4:Nat),.int .u32 (v 5:Nat),.int .u64 (v 6:Nat),.int .u32 (v 7:Nat),.int .i64 (v 8:Nat),.int .i64 (v 9:Nat),.slice a1 z1.length c1,.slice a2 z2.length c2]),.v 48 (.pointer (some ⟨q,0,none⟩)),.v 49 (.int .i64 ((k+1:Nat):Int)),.v 50 (.int .u64 (v (k+1):Nat))] trivial Br.drew Nl ?_ ?_
   ·repeat' (with_reducible first|exact qx|refine qt ?_ ?_)
    all_goals try
     intro A x W J G V I D K hK;have ai:=J.2 10 (by decide);conv at ai=>rhs;whnf
     have bE:=J.2 12 (by decide);conv at bE=>rhs;whnf
     simp only[QJ,QS]at D;clear I J;have y:=qe aG.out G;have y0:W.cell? ⟨q,0,none⟩=some (.int .i64 ((k+1:Nat):Int)):=qa y 0;have y1:W.cell? ⟨q,1,none⟩=some (.int .i64 (atB big (k+1):Nat)):=qa y 1;have y2:W.cell? ⟨q,2,none⟩=some (.int .i64 (szB big (k+1):Nat)):=qa y 2;have y3:q<W.heap.size:=by omega
     go_simp
     exact hK _ _ BR rfl
    ·intro A x W J G V I _ K hK;have a3:=J.2 3 (by decide);conv at a3=>rhs;whnf
     clear I J;exact qV 171 _ rfl o 0 a3 171 #[.int .i64 (v 1:Nat),.int .i64 (v 2:Nat),.int .i64 (v 3:Nat),.int .i64 (v 4:Nat),.int .u32 (v 5:Nat),.int .u64 (v 6:Nat),.int .u32 (v 7:Nat),.int .i64 (v 8:Nat),.int .i64 (v 9:Nat),.slice a1 z1.length c1,.slice a2 z2.length c2] #[.int .i64 (v 1:Nat),.int .i64 (v 2:Nat),.int .i64 (v 3:Nat),.int .i64 (v 4:Nat),.int .u32 (v 5:Nat),.int .u64 (v 6:Nat),.int .u32 (v 7:Nat),.int .i64 (v 8:Nat),.int .i64 (v 9:Nat),.slice a1 z1.length c1,.slice a2 z2.length c2] (0,0) _ (qe aK.out G) Tryz.underlying171 rfl (by kernel_rfl) (fun j _=>by rw[Nat.zero_add]) (hK _ _ BR rfl)
    ·intro A x W J G V I _ K hK;have b5:=gv J I 5 47;have b8:=gv J I 7 49;clear I J;go_simp
     refine(show Calls Tryz.prog 136 #[.agg #[.int .i64 (v 1:Nat),.int .i64 (v 2:Nat),.int .i64 (v 3:Nat),.int .i64 (v 4:Nat),.int .u32 (v 5:Nat),.int .u64 (v 6:Nat),.int .u32 (v 7:Nat),.int .i64 (v 8:Nat),.int .i64 (v 9:Nat),.slice a1 z1.length c1,.slice a2 z2.length c2],.int .i64 ((k+1:Nat):Int)] W _ from qgq ax.out (.slice a1 z1.length c1) (.slice a2 z2.length c2) (k+1) (by omega) (by omega) W).mono ?_;rintro r w3 ⟨rfl,aL⟩
     exact hK _ _ aL rfl
   intro x W G V ac;clear ac;refine qo ?_;simp only[Qx,Act.put,Ls];have bw:=hid (show RowB W g (Qt big (v 7==0) v k) from(G.block g (by omega)).trans aM.out);have bC:=hid (show But g w6 W from aF.out.trans ⟨G.os,G.tape,G.output,G.size,fun j hj _=>G.block j (by omega)⟩);clear c0 G V aM aK aG aF bI;go_wp2_with fail
   refine(qig (Qt big (v 7==0) v k) g M M (atB big (k+1)) (szB big (k+1)) bh.out.1 (by rw[ae,hM];exact bh.out.2) (by rw[ae,hM]) Nl (by omega) (v (k+1)) (ax.out.le (k+1) (by omega) (by omega)) W bw.out).mono ?_;rintro r w4 ⟨rfl,U,X⟩;have av:=hid U;have az:=hid X;clear U X;go_wp2_with fail
   refine qs ?_;go_wp2
   refine⟨⟨k+1,rfl,by omega,?_,bC.out.trans az.out⟩,by simp[intOf];omega⟩;have e:Qt big (v 7==0) v (k+1)=Qb (Qt big (v 7==0) v k) (atB big (k+1)) (qZ (v (k+1)) (szB big (k+1))):=by rw[Qt,if_neg (fun h=>h7 (by omega))]
   rw[e];exact av.out
  obtain rfl:k=9:=by omega
  clear aZ hk;have au:=hid (show QI big v z1 z2=Qb (Qb (Qt big (v 7==0) v 9) (2*S) z1) (3*S) z2 by rw[←hS];rfl);have hE:(Qt big (v 7==0) v 9).length=M:=ae.trans hM;obtain⟨E,bd⟩: ∃E,Qt big (v 7==0) v 9=E:=⟨_,rfl⟩;rw[bd]at hE au HW;clear aa hb ae bd;obtain⟨O,bg⟩:=Ex (2*S);obtain⟨Y,bi⟩:=Ex (3*S);rw[bg,bi]at au;have e2:(M:Int) - 2*(S:Int)=(O:Int):=by omega
  have e3:(M:Int) - (S:Int)=(Y:Int):=by omega
  have aJ:z1.length≤S:=by have:=av.out;omega
  have aN:z2.length≤S:=by have:=az.out;omega
  have bb:O+S≤M∧Y+S≤M∧O<M∧Y<M∧S≤16∧M≤64:=by omega
  have aj:=hid bb;have bf:=hid aJ;have aX:=hid aN;have HE:=hid hE;have b3: ¬(M=O):=by omega
  have cd: ¬(M=Y):=by omega
  have k2:(O:Int)≤(M:Int):=by omega
  have k3:(Y:Int)≤(M:Int):=by omega
  have ak:=hid ay;have bV:o<wr.heap.size∧g<wr.heap.size:=by omega
  have ca:IntKind.i64.wrap (2*(S:Int))=2*(S:Int):=by rw[IntKind.wrap_i64];omega
  have cb:IntKind.i64.wrap (O:Int)=(O:Int):=by rw[IntKind.wrap_i64];omega
  have b9:IntKind.i64.wrap (Y:Int)=(Y:Int):=by rw[IntKind.wrap_i64];omega
  have bv:=hid (show Below o w wr from bO.out.trans (HB.out.below (by omega) (by omega)));clear bL bP aJ aN bb bg bi hE ay bN;go_upto_region 12 with(fail)
  refine qA (n:=8) (w0:=wr) (B:=wr.heap.size) [.v 53 (.slice (some ⟨g,0,none⟩) M M),.v 54 (.int .i64 M),.v 55 (.int .i64 S),.v 56 (.int .i64 (2*(S:Int))),.v 57 (.int .i64 O),.v 58 (.slice (some ⟨g,O,none⟩) (M - O) (M - O)),.v 59 (.pointer (some ⟨o,9,none⟩)),.v 60 (.slice a1 z1.length c1)] trivial Br.drew Nl ?_ ?_
  ·repeat' (with_reducible first|exact qx|refine qt ?_ ?_)
   all_goals
    intro A x W J G V I D K hK;have a3:=J.2 3 (by decide);conv at a3=>rhs;whnf
    have ai:=J.2 10 (by decide);conv at ai=>rhs;whnf
    have a7:=J.2 7 (by decide);conv at a7=>rhs;whnf
    have a9:=J.2 9 (by decide);conv at a9=>rhs;whnf
    simp only[QJ,QS]at D;clear I J;have y:=qe ak.out G;have y0:W.cell? ⟨o,9,none⟩=some (.slice a1 z1.length c1):=qa y 9;have y3:o<W.heap.size:=by omega
    go_simp
    exact hK _ _ BR rfl
  intro x W G V ac;clear ac;refine qo ?_;simp only[Qx,Act.put,Ls];have ap:Below o w W:=bv.out.trans (G.mono (by omega));have am:=(bQ.out.below (ah▸ap)).src;have aS:W.heap[g]? =some (.cells (E.map qp).toArray 5 (0,0)):=(G.block g (by omega)).trans HW.out;have aO:=hid (qe ak.out G);have U:O+z1.length≤(E).length:=by have:=aj.out;have:=bf.out;have:=HE.out;omega
  have bl:=hid U;have aB:=hid ap;refine wpList_copy_splice rfl _ _ _ _ rfl 5 Tryz.underlying24 (by rw[hi];simp[aI]) _ _ _ _ _ _ rfl rfl g O (E.map qp) 5 aS (z1.map qp) (by rw[List.length_map];have:=aj.out;have:=bf.out;exact(Nat.min_eq_left (by omega)).symm) (fun h0=>⟨rfl,by
   rcases am.2.2 with⟨-,h2⟩|⟨ad,c,e,h2⟩
   ·rw[List.length_map]at h0;omega
   ·simp only[Value.slice.injEq]at e;exact⟨ad,e.1,h2⟩⟩) (by rw[List.length_map,List.length_map];exact U) am.2.1 g W Br Nl ?_
  intro V1 an Z;have bs:=hid (show RowB V1 g (Qb E O z1) from an.out.trans (by unfold splice Qb;simp[List.append_assoc]));have bn:=hid (show Below o w V1 from aB.out.trans (Z.mono (by omega)));have aC:=hid ((Z.block o (by omega)).trans aO.out);have bY:o<V1.heap.size∧g<V1.heap.size:=by have:=Z.size;omega
  clear am aS U an Z aO aB ap G V;go_wp2_with fail
  refine qs ?_;go_upto_region 13 with(fail)
  refine qA (n:=7) (w0:=V1) (B:=V1.heap.size) [.v 62 (.slice (some ⟨g,0,none⟩) M M),.v 63 (.int .i64 M),.v 64 (.int .i64 S),.v 65 (.int .i64 Y),.v 66 (.slice (some ⟨g,Y,none⟩) (M - Y) (M - Y)),.v 67 (.pointer (some ⟨o,10,none⟩)),.v 68 (.slice a2 z2.length c2)] trivial Br.drew Nl ?_ ?_
  ·repeat' (with_reducible first|exact qx|refine qt ?_ ?_)
   all_goals
    intro A x W J G V I D K hK;have a3:=J.2 3 (by decide);conv at a3=>rhs;whnf
    have ai:=J.2 10 (by decide);conv at ai=>rhs;whnf
    have a7:=J.2 7 (by decide);conv at a7=>rhs;whnf
    have a9:=J.2 9 (by decide);conv at a9=>rhs;whnf
    simp only[QJ,QS]at D;clear I J;have y:=qe aC.out G;have y0:W.cell? ⟨o,10,none⟩=some (.slice a2 z2.length c2):=qa y 10;have y3:o<W.heap.size:=by omega
    go_simp
    exact hK _ _ BR rfl
  have aU:(Qb E O z1).length=M:=by rw[Qd bl.out];exact HE.out
  have bz:=hid aU;clear aU;intro x W G V ac;clear ac;refine qo ?_;simp only[Qx,Act.put,Ls];have aq:Below o w W:=bn.out.trans (G.mono (by omega));have aA:=(bu.out.below (ah▸aq)).src;have aW:W.heap[g]? =some (.cells ((Qb E O z1).map qp).toArray 5 (0,0)):=(G.block g (by omega)).trans bs.out;have aQ:=hid (qe aC.out G);have X:Y+z2.length≤((Qb E O z1)).length:=by have:=aj.out;have:=aX.out;have:=bz.out;omega
  have bW:=hid X;have aH:=hid aq;refine wpList_copy_splice rfl _ _ _ _ rfl 5 Tryz.underlying24 (by rw[hi];simp[aI]) _ _ _ _ _ _ rfl rfl g Y ((Qb E O z1).map qp) 5 aW (z2.map qp) (by rw[List.length_map];have:=aj.out;have:=aX.out;exact(Nat.min_eq_left (by omega)).symm) (fun h0=>⟨rfl,by
   rcases aA.2.2 with⟨-,h2⟩|⟨ad,c,e,h2⟩
   ·rw[List.length_map]at h0;omega
   ·simp only[Value.slice.injEq]at e;exact⟨ad,e.1,h2⟩⟩) (by rw[List.length_map,List.length_map];exact X) aA.2.1 g W Br Nl ?_
  intro V2 an Z;have bt:=hid (show RowB V2 g (Qb (Qb E O z1) Y z2) from an.out.trans (by unfold splice Qb;simp[List.append_assoc]));have br:=hid (show Below o w V2 from aH.out.trans (Z.mono (by omega)));have bR:=hid ((Z.block o (by omega)).trans aQ.out);have bT:o<V2.heap.size∧g<V2.heap.size:=by have:=Z.size;omega
  clear aA aW X an Z aQ aH aq G V;go_wp2_with fail
  refine qs ?_;go_wp2
  go_ret2
  have aE:=yc (big:=big) (v:=v) av.out az.out;have aL:(Qb (Qb E O z1) Y z2).length=M:=by rw[←au.out,aE,hM]
  refine⟨⟨_,rfl,by rw[List.length_map,aE];omega,.inr ⟨g,M,_,by rw[hM];rfl,by omega,bt.out,by omega,by have:=aj.out;unfold maxLen;omega,?_,?_⟩⟩,by rw[ah];exact br.out⟩
  ·rw[List.size_toArray,List.length_map,aL];omega
  ·rw[←au.out];exact List.take_of_length_le (by rw[List.length_map,aE];omega)
theorem qf7 (bs kz:List Int)(J:Int)(bv kv:Value)(w:World)(hB:Hold w bv bs)(hK:Hold w kv kz)(hl:bs.length=64)(aw:kz.length≤64):
  Calls Tryz.prog 98 #[.int .i64 1,bv,.int .i64 J,kv] w fun e w'=> ∃np p Y av ax,e= .returned (.pointer (some ⟨np,0,none⟩))∧w.heap.size≤np∧w.heap.size≤p∧w'.heap[np]? =some (.cells (Q9 1 J av ax false 0 (.iface 277 (.pointer (some ⟨p,0,none⟩)))) 179 (0,0))∧QL true w' p Y (h0Z true bs) (yf 128 kz)∧(∀g,Y.ownBlock=some g→w.heap.size≤g)∧Below w.heap.size w w':=by
 obtain⟨i0,hi,al,ac,ah⟩:=info_parts Qy;obtain⟨b0,ay⟩:=Ex w.heap.size;have G:=hB.src;have U:=hK.src;rw[hl]at G;have ao:=hid G;have au:=hid U;have aq:=hid hB.1;have ap:=hid hK.1;have HL:=hid hl;clear G U hB hK hl;go_enter Tryz.func98,Tryz.ntmps98
 go_upto_region 2 with(first|((with_reducible show wpList _ _ _ (Oper.mk (some 13) _ _ _ _ _::_) _ _);refine Qh rfl _ _ _ rfl w w.heap.size rfl Br 5 i0 (.int .u8 0) 1 Tryz.underlying24 hi al ac ah rfl _ 0 [] rfl (Wo _ _ _ _) bv 64 _ rfl ao.out (by unfold maxLen;omega) (by omega) ?_;intro v1 w1 q ad;have aa:=hid q;have S:=hid ad;clear q ad)|((with_reducible show wpList _ _ _ (Oper.mk (some 15) _ _ _ _ _::_) _ _);refine Qh rfl _ _ _ rfl w1 w1.heap.size rfl Br 5 i0 (.int .u8 0) 1 Tryz.underlying24 hi al ac ah rfl _ 0 [] rfl (Wo _ _ _ _) kv kz.length _ rfl (au.out.below S.out) (by unfold maxLen;omega) (by omega) ?_;intro v2 D o am;obtain⟨a1,n1,c1,rfl⟩:=qu aa.out;obtain⟨a2,Z,c2,rfl⟩:=qu o;have ab:=hid o;have V:=hid am;clear o am))
 have G:=S.out.size;have U:=V.out.size;have O:Below D.heap.size D (D.alloc (.cells (Q9 1 J (.slice a1 n1 c1) (.slice a2 Z c2) false 0 .nilIface) 179)):=Br.alloc Nl _;have ae:=Wn D (.cells (Q9 1 J (.slice a1 n1 c1) (.slice a2 Z c2) false 0 .nilIface) 179);have q:=aa.out;have o:=ab.out;simp only[List.nil_append,Nat.zero_add]at q o;have q:=qi q (fun g _ hg=>V.out.block g hg);have ak:=(Qn q aq.out).below O;have aj:=(Qn o ap.out).below O;have ai:(Value.slice a2 Z c2).ownBlock≠some D.heap.size:=fun e=>by
  rcases o.2 with⟨h, -⟩|⟨g,az,aA,h,h1,X, -⟩
  ·rw[h]at e;cases e
  ·rw[h]at e;simp only[Value.ownBlock,Option.some.injEq]at e;have:=(Ai X).1;omega
 have an:=qfb bs kz D.heap.size J 0 false (.slice a1 n1 c1) (.slice a2 Z c2) .nilIface _ ae ak aj HL.out aw ai;have af:Below w.heap.size w (D.alloc (.cells (Q9 1 J (.slice a1 n1 c1) (.slice a2 Z c2) false 0 .nilIface) 179)):=S.out.trans ((V.out.trans (O.mono U)).mono G);have ag:=hid an;have I:=hid af;clear an af O ae q o ak aj ai aa ab S V;go_wp2_with fail
 refine ag.out.mono ?_;rintro e w4 ⟨rfl,⟨p,Y,h1,X,h3,h4⟩,h5⟩;have HF:=hid (show w.heap.size≤p∧w4.heap[D.heap.size]? =some (.cells (Q9 1 J (.slice a1 n1 c1) (.slice a2 Z c2) false 0 (.iface 277 (.pointer (some ⟨p,0,none⟩)))) 179 (0,0))∧QL true w4 p Y (h0Z true bs) (yf 128 kz)∧(∀g,Y.ownBlock=some g→w.heap.size≤g)∧Below w.heap.size w w4 from⟨by have:=I.out.size;omega,X,h3,fun g hg=>by have:=h4 g hg;have:=I.out.size;omega,I.out.trans (h5.below I.out.size (fun k hk=>by omega))⟩);clear h1 X h3 h4 h5 ag I;have ar:w.heap.size≤D.heap.size:=by omega
 go_wp2
 go_ret
 obtain⟨h1,X,h3,h4,h5⟩:=HF.out;exact⟨_,p,Y,_,_,rfl,ar,h1,X,h3,h4,h5⟩
theorem qeN (bs kz:List Int)(J:Int)(bv kv:Value)(w:World)(hB:Hold w bv bs)(hK:Hold w kv kz)(hl:bs.length=32)(aw:kz.length≤32):
  Calls Tryz.prog 98 #[.int .i64 2,bv,.int .i64 J,kv] w fun e w'=> ∃np p Y av ax,e= .returned (.pointer (some ⟨np,0,none⟩))∧w.heap.size≤np∧w.heap.size≤p∧w'.heap[np]? =some (.cells (Q9 2 J av ax false 0 (.iface 287 (.pointer (some ⟨p,0,none⟩)))) 179 (0,0))∧QL false w' p Y (h0Z false bs) (yf 64 kz)∧(∀g,Y.ownBlock=some g→w.heap.size≤g)∧Below w.heap.size w w':=by
 obtain⟨i0,hi,al,ac,ah⟩:=info_parts Qy;obtain⟨b0,ay⟩:=Ex w.heap.size;have G:=hB.src;have U:=hK.src;rw[hl]at G;have ao:=hid G;have au:=hid U;have aq:=hid hB.1;have ap:=hid hK.1;have HL:=hid hl;clear G U hB hK hl;go_enter Tryz.func98,Tryz.ntmps98
 go_upto_region 2 with(first|((with_reducible show wpList _ _ _ (Oper.mk (some 13) _ _ _ _ _::_) _ _);refine Qh rfl _ _ _ rfl w w.heap.size rfl Br 5 i0 (.int .u8 0) 1 Tryz.underlying24 hi al ac ah rfl _ 0 [] rfl (Wo _ _ _ _) bv 32 _ rfl ao.out (by unfold maxLen;omega) (by omega) ?_;intro v1 w1 q ad;have aa:=hid q;have S:=hid ad;clear q ad)|((with_reducible show wpList _ _ _ (Oper.mk (some 15) _ _ _ _ _::_) _ _);refine Qh rfl _ _ _ rfl w1 w1.heap.size rfl Br 5 i0 (.int .u8 0) 1 Tryz.underlying24 hi al ac ah rfl _ 0 [] rfl (Wo _ _ _ _) kv kz.length _ rfl (au.out.below S.out) (by unfold maxLen;omega) (by omega) ?_;intro v2 D o am;obtain⟨a1,n1,c1,rfl⟩:=qu aa.out;obtain⟨a2,Z,c2,rfl⟩:=qu o;have ab:=hid o;have V:=hid am;clear o am))
 have G:=S.out.size;have U:=V.out.size;have O:Below D.heap.size D (D.alloc (.cells (Q9 2 J (.slice a1 n1 c1) (.slice a2 Z c2) false 0 .nilIface) 179)):=Br.alloc Nl _;have ae:=Wn D (.cells (Q9 2 J (.slice a1 n1 c1) (.slice a2 Z c2) false 0 .nilIface) 179);have q:=aa.out;have o:=ab.out;simp only[List.nil_append,Nat.zero_add]at q o;have q:=qi q (fun g _ hg=>V.out.block g hg);have ak:=(Qn q aq.out).below O;have aj:=(Qn o ap.out).below O;have ai:(Value.slice a2 Z c2).ownBlock≠some D.heap.size:=fun e=>by
  rcases o.2 with⟨h, -⟩|⟨g,az,aA,h,h1,X, -⟩
  ·rw[h]at e;cases e
  ·rw[h]at e;simp only[Value.ownBlock,Option.some.injEq]at e;have:=(Ai X).1;omega
 have an:=qdT bs kz D.heap.size J 0 false (.slice a1 n1 c1) (.slice a2 Z c2) .nilIface _ ae ak aj HL.out aw ai;have af:Below w.heap.size w (D.alloc (.cells (Q9 2 J (.slice a1 n1 c1) (.slice a2 Z c2) false 0 .nilIface) 179)):=S.out.trans ((V.out.trans (O.mono U)).mono G);have ag:=hid an;have I:=hid af;clear an af O ae q o ak aj ai aa ab S V;go_wp2_with fail
 refine ag.out.mono ?_;rintro e w4 ⟨rfl,⟨p,Y,h1,X,h3,h4⟩,h5⟩;have HF:=hid (show w.heap.size≤p∧w4.heap[D.heap.size]? =some (.cells (Q9 2 J (.slice a1 n1 c1) (.slice a2 Z c2) false 0 (.iface 287 (.pointer (some ⟨p,0,none⟩)))) 179 (0,0))∧QL false w4 p Y (h0Z false bs) (yf 64 kz)∧(∀g,Y.ownBlock=some g→w.heap.size≤g)∧Below w.heap.size w w4 from⟨by have:=I.out.size;omega,X,h3,fun g hg=>by have:=h4 g hg;have:=I.out.size;omega,I.out.trans (h5.below I.out.size (fun k hk=>by omega))⟩);clear h1 X h3 h4 h5 ag I;have ar:w.heap.size≤D.heap.size:=by omega
 go_wp2
 go_ret
 obtain⟨h1,X,h3,h4,h5⟩:=HF.out;exact⟨_,p,Y,_,_,rfl,ar,h1,X,h3,h4,h5⟩
def ZQ (k:Int)(bv kv:Value)(la:Bool)(o:Int)(dv:Value):Array Value:= #[.int .i64 k,bv,kv,.bool la,.int .i64 o,dv]
def yX (bs kz:List Int):Bool:=decide (kz.length≠0∧(kz.length:Int)≠qn bs 1)
theorem JG (o kz:List Int):yX o kz=(((kz.length:Int) != 0)&&((kz.length:Int) != qn o 1)):=by
 unfold yX;rw[Bool.eq_iff_iff];simp only[decide_eq_true_eq,Bool.and_eq_true,bne_iff_ne,ne_eq];omega
theorem qcM {big:Bool}{o kz:List Int}(h:okD big false o)(q:yX o kz=false):kz.length≤mB big:=by
 unfold yX at q;have G:=of_decide_eq_false q;have D:0≤qn o 1∧qn o 1≤(mB big:Nat):=h.2.2.2.2.1;omega
def qbb (big:Bool)(bs kz:List Int)(la:Bool)(o:Int)(ds:List Int):List Int:=(Y0 big (h0Z big bs) (yf (bB big) kz++ds) la).take o.toNat
def qbj (big:Bool)(bs kz:List Int)(la:Bool)(o:Int)(ds:List Int)(w:World)(e:Ending)(w':World):Prop:=
 (∃v,e= .returned (.tuple #[v,.int .i64 0])∧Fresh w.heap.size w' v (qbb big bs kz la o ds))∧Below w.heap.size w w'
theorem qft {big:Bool}{w w':World}{p q:Nat}{G:Value}{O D:List Int}{c:Array Value}{T:TypeId}{fr:Nat×Nat}(h:QL big w p G O D)(I:But q w w')(J:w.heap[q]? =some (.cells c T fr))(U:T≠283)(S:T≠291)(V:T≠5):QL big w' p G O D:=by
 refine⟨?_,yS h.2 I J V⟩;rw[I.block p (Ai h.1).1 ?_];exact h.1;rintro rfl
 have o:=h.1;rw[J]at o;simp only[Option.some.injEq,Obj.cells.injEq]at o
 cases big
 ·exact S o.2.1
 ·exact U o.2.1
theorem qaa {big:Bool}{w:World}{p q:Nat}{o:Value}{I D:List Int}{c:Array Value}{T:TypeId}{fr:Nat×Nat}(h:QL big w p o I D)(J:w.heap[q]? =some (.cells c T fr))(G:T≠5):o.ownBlock≠some q:=fun e=>qcA h.2 J G e.symm
theorem qgn (O kz ds:List Int)(J:Bool)(o:Int)(Y kv V:Value)(w:World)(hB:Hold w Y O)(hK:Hold w kv kz)(hD:Hold w V ds)(aV:(ds.length:Int)≤140737488355200)(ba:okD true false O)(ar:yX O kz=false)(ho:1≤o∧o≤64):
  Calls Tryz.prog 60 #[.agg (ZQ 1 Y kv J o V)] w fun e w'=>qbj true O kz J o ds w e w':=by
 obtain⟨G,U⟩:=Ex w.heap.size;obtain⟨ka,kc,rfl,bj,bk⟩:=hK.slice;have al:Below G w (w.alloc (.cells #[.int .i64 1,Y,.slice ka kz.length kc,.bool J,.int .i64 o,V] 73)):=by rw[←U];exact Br.alloc Nl _
 have ag:=Wn w (.cells #[.int .i64 1,Y,.slice ka kz.length kc,.bool J,.int .i64 o,V] 73);rw[U]at ag;have ad:=hB.below (U▸al);have HB:=hid hB;have HK:=hid hK;have HD:=hid hD;have aT:=hid aV;have ay:=hid ba;have aS:=hid ar;have HO:=hid ho;clear hB hK hD aV bj bk ba ar ho;show Calls _ _ #[.agg #[.int .i64 1,Y,.slice ka kz.length kc,.bool J,.int .i64 o,V]] _ _
 go_enter Tryz.func60,Tryz.ntmps60
 go_wp2_with fail
 generalize w.alloc (.cells #[.int .i64 1,Y,.slice ka kz.length kc,.bool J,.int .i64 o,V] 73)=wA at*;refine(qb7 true O Y wA ad.holds8 ad.1 (fun a n c e=>by obtain⟨a',c',e',h1,h2⟩:=ad.slice;rw[e']at e;simp only[Value.slice.injEq]at e;obtain⟨-,rfl,rfl⟩:=e;exact⟨h1,h2⟩) ay.out).mono ?_;rintro e w1 ⟨⟨fo,dp,lf,aF,nd,aA,sa,pe,rfl,br,bL⟩,af⟩;obtain⟨ky,au⟩:=Ex (qn O 1);obtain⟨dg,aM⟩:=Ex (qn O 0);rw[au,aM];unfold yK;have a4:=qe ag af;have bM:=af.size;have bi:G<wA.heap.size:=(Ai ag).1;have a9:Below G w w1:=al.trans (af.mono (by omega));have aQ:=hid a4;have aR:=hid a9;clear a4 a9 af al ag ad;go_upto_if 24 with((with_reducible show wpList _ _ _ (Oper.mk none (Op.store 171 _ _) _ _ _ _::_) _ _);refine wpList_store_row rfl 171 _ _ rfl w1.heap.size #[.int .i64 dg,.int .i64 ky,.int .i64 fo,.int .i64 dp,.int .u32 lf,.int .u64 aF,.int .u32 0,.int .i64 nd,.int .i64 aA,sa,pe] rfl rfl 171 _ (Wn _ _) (by kernel_rfl) rfl (by simp only[List.all_toArray,List.all_cons,List.all_nil,br,bL];rfl) ?_)
 refine qj ?_;intro W hW;obtain⟨p4,aq⟩:=Ex w1.heap.size;have ae:W.heap[p4]? =some (.cells #[.int .i64 dg,.int .i64 ky,.int .i64 fo,.int .i64 dp,.int .u32 lf,.int .u64 aF,.int .u32 0,.int .i64 nd,.int .i64 aA,sa,pe] 171 (0,0)):=by rw[hW,←aq];exact setRow_heap _ _ _ _ _ _ (Wn _ _)
 have aa:W.heap[G]? =some (.cells #[.int .i64 1,Y,.slice ka kz.length kc,.bool J,.int .i64 o,V] 73 (0,0)):=by rw[hW];exact(setRow_other (w1.alloc _) _ _ _ (by omega)).trans ((Bh _ _ _ (by omega)).trans aQ.out)
 have ao:Below G w W:=by rw[hW];exact below_setRow (aR.out.alloc (by omega) _) (by omega) _
 rw[aq];have bO:G<p4:=by omega
 clear hW aq aQ aR bM bi;have bo:p4<W.heap.size:=(Ai ae).1;have bG:=HB.out.below (U▸ao);have aW:=hid aa;have ai:=hid ao;have bF:W.cell? ⟨p4,0,none⟩=some (.int .i64 dg):=qa ae 0;have bK:W.cell? ⟨p4,1,none⟩=some (.int .i64 ky):=qa ae 1;have bD:W.cell? ⟨G,0,none⟩=some (.int .i64 1):=qa aa 0;have bC:W.cell? ⟨G,1,none⟩=some Y:=qa aa 1;have bt:W.cell? ⟨G,2,none⟩=some (.slice ka kz.length kc):=qa aa 2;have bf:G<W.heap.size:=(Ai aa).1;obtain⟨q0,az⟩: ∃q,((kz.length:Int) != 0)=q:=⟨_,rfl⟩;obtain⟨q1,a5⟩: ∃q,((kz.length:Int) != ky)=q:=⟨_,rfl⟩;have aZ:(q0&&q1)=false:=by rw[←az,←a5,←au];exact(JG O kz).symm.trans aS.out
 have bm:kz.length≤64:=qcM ay.out aS.out;clear ae aa ao au aM bG;go_upto_region 8 with(fail)
 go_cut [46] from 7 (fun u W'=>u= .bool false∧W=W')
 case first=>
  cases q0<;>cases q1<;>first|(exfalso;cases aZ;done)|skip
  all_goals
   go_wp2
   go_meet
   case rel=>exact⟨rfl,by trivial⟩
 case rest=>
  clear az a5 bK aZ;obtain⟨rfl,rfl⟩:=hcut;have aB:=qf7 O kz dg Y (.slice ka kz.length kc) W (HB.out.below (U▸ai.out)) (HK.out.below (U▸ai.out)) ay.out.1 bm;have aJ:=hid aB;clear aB;go_wp2_with fail
  refine aJ.out.mono ?_;rintro e S ⟨I,p,hv,aK,bd,rfl,m1,m2,m3,m4,m5,m6⟩;have ax:=qe aW.out m6;have a8:Below G w S:=ai.out.trans (m6.mono (by omega));have bz:=m6.size;have bH:S.cell? ⟨G,3,none⟩=some (.bool J):=qa ax 3;have bn:S.cell? ⟨I,4,none⟩=some (.bool false):=qa m3 4;have bl:=frozen_of_row S I 4 _ _ m3;have ah:G<S.heap.size:=by omega
  have be:I<S.heap.size:=(Ai m3).1;have bI:G<I∧G<p:=by omega
  obtain⟨bN,bQ⟩:=bI;have ab:But I S (S.setCell ⟨I,4,none⟩ (.bool J)):=(But.refl I S).set 4 _;have aN:=ja (b:=J) m3;have aH:=qft m4 ab m3 (by decide) (by decide) (by decide);have aC:=(ab.block G ah (by omega)).trans ax;have aL:Below G w (S.setCell ⟨I,4,none⟩ (.bool J)):=a8.trans (ab.below (by omega) (by omega));have bg:p≠I:=fun e=>by have h1:=m4.1;rw[e,m3]at h1;simp only[cond,Option.some.injEq,Obj.cells.injEq]at h1;exact absurd h1.2.1 (by decide)
  have aO: ∀g,hv.ownBlock=some g→G<g:=fun g hg=>by have:=m5 g hg;omega
  have aE:=hid aN;have am:=hid aH;have aX:=hid aC;have aw:=hid aL;have ap:=hid aO;have aY:(S.setCell ⟨I,4,none⟩ (.bool J)).heap.size=S.heap.size:=by simp[World.setCell]
  rw[←aY]at be ah;clear ax a8 m1 m2 m3 m4 m5 aO m6 ab aN aH aC aL bz aY aW ai aJ bD bC bt bf bF bo;go_upto_region 12 with(fail)
  generalize S.setCell ⟨I,4,none⟩ (.bool J)=W4 at*;clear bH bn bl S W;refine Q3 (fun f W=>W.heap[I]? =some (.cells (Q9 1 dg aK bd J 0 (.iface 277 (.pointer (some ⟨p,0,none⟩)))) 179 (0,0))∧W.heap[G]? =some (.cells #[.int .i64 1,Y,.slice ka kz.length kc,.bool J,.int .i64 o,V] 73 (0,0))∧(f=false→Below W4.heap.size W4 W)∧(f=true→Spare (Y7 p hv) W4 W∧ ∃ac,QL true W p ac (h0Z true O) (yf 128 kz++ds))) 6 [.v 61 (.pointer (some ⟨I,0,none⟩)),.v 62 (.pointer (some ⟨I,0,none⟩)),.v 63 (.pointer (some ⟨I,6,none⟩)),.v 64 (.iface 277 (.pointer (some ⟨p,0,none⟩))),.v 65 (.pointer (some ⟨G,5,none⟩)),.v 66 V,.p 67 (fun _ _=>True)] (by exact⟨kW,trivial⟩) ⟨aE.out,aX.out,fun _=>Br.drew,fun h=>(by cases h)⟩ (fun f W W' h hb=>⟨qe h.1 hb,qe h.2.1 hb,fun e=>(h.2.2.1 e).trans (hb.mono (h.2.2.1 e).size),fun e=>by obtain⟨h1,ac,h2⟩:=h.2.2.2 e;exact⟨h1.trans (Spare.of_below _ hb) (fun _ _ h=>h),ac,yu h2 hb⟩⟩) ?_ ?_ ?_
  ·repeat' (with_reducible first|exact qx|refine qt ?_ ?_)
   all_goals try
    refine .inr ?_;intro A x W f hA X hf Z D K hK;have a6:=hA.2 6 (by decide);conv at a6=>rhs;whnf
    have a1:=hA.2 1 (by decide);conv at a1=>rhs;whnf
    simp only[QJ,QS]at D;clear Z hA;first
    | go_simp
      exact hK _ _ BR rfl
    | have y0:W.cell? ⟨I,6,none⟩=some (.iface 277 (.pointer (some ⟨p,0,none⟩))):=qa X.1 6
      have y1:W.cell? ⟨G,5,none⟩=some V:=qa X.2.1 5;go_simp
      exact hK _ _ BR rfl
   any_goals exact .inl rfl
  ·intro A x W hA X Z K hK;have bT:=gw hA Z 3 64;have bS:=gw hA Z 5 66;clear Z hA;have hB:=X.2.2.1 rfl;go_simp
   refine Ya (f:=260) (by kernel_rfl) ?_;go_simp
   have bq:Hold W V ds:=HD.out.below (U▸aw.out.trans (hB.mono (by omega)));refine(qaw (h0Z true O) (yf 128 kz) ds (QK true O) (YJ HK.out.1) p hv V W (yu am.out hB) bq (fun aG b hb=>⟨fun e=>by have:=Yo HD.out aG hb;omega,fun e=>by have:=Yo HD.out aG hb;have:=ap.out b e;omega⟩) (by have:=YI (n:=128) (key:=kz) (by omega);have:=aT.out;omega)).mono ?_;rintro e w' ⟨rfl,⟨ac,bw, -⟩,ak⟩
   refine hK _ _ (fun h=>by cases h) ⟨(ak.block I (Ai X.1).1 ⟨fun e=>bg e.symm,qaa (yu am.out hB) X.1 (by decide)⟩).trans X.1,(ak.block G (Ai X.2.1).1 ⟨by omega,fun e=>by have:=ap.out G e;omega⟩).trans X.2.1,fun h=>(by cases h),fun _=>⟨(Spare.of_below _ hB).trans ak (fun _ _ h=>h),ac,bw⟩⟩ ⟨.inr (fun _ h=>h),.inr (fun _ h=>h),.inr (fun _ h=>h),.inr (fun _ h=>h),.inr (fun _ h=>h),.inr (fun _ h=>h),.inl rfl,trivial⟩ trivial
  intro x W X bh;obtain⟨a7, -⟩:=bh;change ((fun _ _=>True)) (x 67) W at a7
  simp only[Qx,Act.put,Ls];obtain⟨bc,aj, -,h9⟩:=X;obtain⟨aI,bx,aD⟩:=h9 rfl;have a3:Below G w W:=aw.out.trans (aI.below (by omega) (fun k hk=>⟨by omega,fun e=>by have:=ap.out k e;omega⟩));have bR:W.cell? ⟨G,4,none⟩=some (.int .i64 o):=qa aj 4;have bP:G<W.heap.size:=(Ai aj).1;have bu:=hid bc;have bA:=hid aD;have bp:=hid a3;clear bc aj h9 aI aD a3 a7 aE am aX aw;go_wp2_with fail
  have ho:=HO.out;obtain⟨m,hm⟩: ∃m:Nat,o=(m:Int):=⟨o.toNat,by omega⟩;have an:1≤m∧m≤64:=by omega
  clear ho HO;subst hm;have av:(((yf 128 kz)++ds).length:Int)≤281474976710656:=by
   have:=YI (n:=128) (key:=kz) (by omega)
   have:=aT.out
   rw[List.length_append];omega
  have bb: ∀z∈yf 128 kz++ds,0≤z∧z≤255:=fun z hz=>by
   rcases List.mem_append.1 hz with hz|hz
   ·exact YJ HK.out.1 z hz
   ·exact HD.out.1 z hz
  refine(qcE (h0Z true O) (yf 128 kz++ds) (QK true O) bb I p m dg 0 J aK bd bx _ bu.out bA.out av an.1 an.2).mono ?_;rintro e w5 ⟨⟨v5,rfl,aP⟩,aU⟩;have bE:=hid (show Fresh w.heap.size w5 v5 (qbb true O kz J (m:Nat) ds) from by have h:=aP.le (b':=w.heap.size) (by omega);unfold qbb;exact h);have bJ:=hid (show Below G w w5 from bp.out.trans (aU.mono (by omega)));clear aP aU av bb an;go_wp2
  go_ret2
  exact⟨⟨_,rfl,bE.out⟩,by rw[U];exact bJ.out⟩
theorem qe6 (O kz ds:List Int)(J:Bool)(o:Int)(Y kv V:Value)(w:World)(hB:Hold w Y O)(hK:Hold w kv kz)(hD:Hold w V ds)(aV:(ds.length:Int)≤140737488355200)(ba:okD false false O)(ar:yX O kz=false)(ho:1≤o∧o≤32):
  Calls Tryz.prog 60 #[.agg (ZQ 2 Y kv J o V)] w fun e w'=>qbj false O kz J o ds w e w':=by
 obtain⟨G,U⟩:=Ex w.heap.size;obtain⟨ka,kc,rfl,bj,bk⟩:=hK.slice;have al:Below G w (w.alloc (.cells #[.int .i64 2,Y,.slice ka kz.length kc,.bool J,.int .i64 o,V] 73)):=by rw[←U];exact Br.alloc Nl _
 have ag:=Wn w (.cells #[.int .i64 2,Y,.slice ka kz.length kc,.bool J,.int .i64 o,V] 73);rw[U]at ag;have ad:=hB.below (U▸al);have HB:=hid hB;have HK:=hid hK;have HD:=hid hD;have aT:=hid aV;have ay:=hid ba;have aS:=hid ar;have HO:=hid ho;clear hB hK hD aV bj bk ba ar ho;show Calls _ _ #[.agg #[.int .i64 2,Y,.slice ka kz.length kc,.bool J,.int .i64 o,V]] _ _
 go_enter Tryz.func60,Tryz.ntmps60
 go_wp2_with fail
 generalize w.alloc (.cells #[.int .i64 2,Y,.slice ka kz.length kc,.bool J,.int .i64 o,V] 73)=wA at*;refine(qb7 false O Y wA ad.holds8 ad.1 (fun a n c e=>by obtain⟨a',c',e',h1,h2⟩:=ad.slice;rw[e']at e;simp only[Value.slice.injEq]at e;obtain⟨-,rfl,rfl⟩:=e;exact⟨h1,h2⟩) ay.out).mono ?_;rintro e w1 ⟨⟨fo,dp,lf,aF,nd,aA,sa,pe,rfl,br,bL⟩,af⟩;obtain⟨ky,au⟩:=Ex (qn O 1);obtain⟨dg,aM⟩:=Ex (qn O 0);rw[au,aM];unfold yK;have a4:=qe ag af;have bM:=af.size;have bi:G<wA.heap.size:=(Ai ag).1;have a9:Below G w w1:=al.trans (af.mono (by omega));have aQ:=hid a4;have aR:=hid a9;clear a4 a9 af al ag ad;go_upto_if 24 with((with_reducible show wpList _ _ _ (Oper.mk none (Op.store 171 _ _) _ _ _ _::_) _ _);refine wpList_store_row rfl 171 _ _ rfl w1.heap.size #[.int .i64 dg,.int .i64 ky,.int .i64 fo,.int .i64 dp,.int .u32 lf,.int .u64 aF,.int .u32 0,.int .i64 nd,.int .i64 aA,sa,pe] rfl rfl 171 _ (Wn _ _) (by kernel_rfl) rfl (by simp only[List.all_toArray,List.all_cons,List.all_nil,br,bL];rfl) ?_)
 refine qj ?_;intro W hW;obtain⟨p4,aq⟩:=Ex w1.heap.size;have ae:W.heap[p4]? =some (.cells #[.int .i64 dg,.int .i64 ky,.int .i64 fo,.int .i64 dp,.int .u32 lf,.int .u64 aF,.int .u32 0,.int .i64 nd,.int .i64 aA,sa,pe] 171 (0,0)):=by rw[hW,←aq];exact setRow_heap _ _ _ _ _ _ (Wn _ _)
 have aa:W.heap[G]? =some (.cells #[.int .i64 2,Y,.slice ka kz.length kc,.bool J,.int .i64 o,V] 73 (0,0)):=by rw[hW];exact(setRow_other (w1.alloc _) _ _ _ (by omega)).trans ((Bh _ _ _ (by omega)).trans aQ.out)
 have ao:Below G w W:=by rw[hW];exact below_setRow (aR.out.alloc (by omega) _) (by omega) _
 rw[aq];have bO:G<p4:=by omega
 clear hW aq aQ aR bM bi;have bo:p4<W.heap.size:=(Ai ae).1;have bG:=HB.out.below (U▸ao);have aW:=hid aa;have ai:=hid ao;have bF:W.cell? ⟨p4,0,none⟩=some (.int .i64 dg):=qa ae 0;have bK:W.cell? ⟨p4,1,none⟩=some (.int .i64 ky):=qa ae 1;have bD:W.cell? ⟨G,0,none⟩=some (.int .i64 2):=qa aa 0;have bC:W.cell? ⟨G,1,none⟩=some Y:=qa aa 1;have bt:W.cell? ⟨G,2,none⟩=some (.slice ka kz.length kc):=qa aa 2;have bf:G<W.heap.size:=(Ai aa).1;obtain⟨q0,az⟩: ∃q,((kz.length:Int) != 0)=q:=⟨_,rfl⟩;obtain⟨q1,a5⟩: ∃q,((kz.length:Int) != ky)=q:=⟨_,rfl⟩;have aZ:(q0&&q1)=false:=by rw[←az,←a5,←au];exact(JG O kz).symm.trans aS.out
 have bm:kz.length≤32:=qcM ay.out aS.out;clear ae aa ao au aM bG;go_upto_region 8 with(fail)
 go_cut [46] from 7 (fun u W'=>u= .bool false∧W=W')
 case first=>
  cases q0<;>cases q1<;>first|(exfalso;cases aZ;done)|skip
  all_goals
   go_wp2
   go_meet
   case rel=>exact⟨rfl,by trivial⟩
 case rest=>
  clear az a5 bK aZ;obtain⟨rfl,rfl⟩:=hcut;have aB:=qeN O kz dg Y (.slice ka kz.length kc) W (HB.out.below (U▸ai.out)) (HK.out.below (U▸ai.out)) ay.out.1 bm;have aJ:=hid aB;clear aB;go_wp2_with fail
  refine aJ.out.mono ?_;rintro e S ⟨I,p,hv,aK,bd,rfl,m1,m2,m3,m4,m5,m6⟩;have ax:=qe aW.out m6;have a8:Below G w S:=ai.out.trans (m6.mono (by omega));have bz:=m6.size;have bH:S.cell? ⟨G,3,none⟩=some (.bool J):=qa ax 3;have bn:S.cell? ⟨I,4,none⟩=some (.bool false):=qa m3 4;have bl:=frozen_of_row S I 4 _ _ m3;have ah:G<S.heap.size:=by omega
  have be:I<S.heap.size:=(Ai m3).1;have bI:G<I∧G<p:=by omega
  obtain⟨bN,bQ⟩:=bI;have ab:But I S (S.setCell ⟨I,4,none⟩ (.bool J)):=(But.refl I S).set 4 _;have aN:=ja (b:=J) m3;have aH:=qft m4 ab m3 (by decide) (by decide) (by decide);have aC:=(ab.block G ah (by omega)).trans ax;have aL:Below G w (S.setCell ⟨I,4,none⟩ (.bool J)):=a8.trans (ab.below (by omega) (by omega));have bg:p≠I:=fun e=>by have h1:=m4.1;rw[e,m3]at h1;simp only[cond,Option.some.injEq,Obj.cells.injEq]at h1;exact absurd h1.2.1 (by decide)
  have aO: ∀g,hv.ownBlock=some g→G<g:=fun g hg=>by have:=m5 g hg;omega
  have aE:=hid aN;have am:=hid aH;have aX:=hid aC;have aw:=hid aL;have ap:=hid aO;have aY:(S.setCell ⟨I,4,none⟩ (.bool J)).heap.size=S.heap.size:=by simp[World.setCell]
  rw[←aY]at be ah;clear ax a8 m1 m2 m3 m4 m5 aO m6 ab aN aH aC aL bz aY aW ai aJ bD bC bt bf bF bo;go_upto_region 12 with(fail)
  generalize S.setCell ⟨I,4,none⟩ (.bool J)=W4 at*;clear bH bn bl S W;refine Q3 (fun f W=>W.heap[I]? =some (.cells (Q9 2 dg aK bd J 0 (.iface 287 (.pointer (some ⟨p,0,none⟩)))) 179 (0,0))∧W.heap[G]? =some (.cells #[.int .i64 2,Y,.slice ka kz.length kc,.bool J,.int .i64 o,V] 73 (0,0))∧(f=false→Below W4.heap.size W4 W)∧(f=true→Spare (Y7 p hv) W4 W∧ ∃ac,QL false W p ac (h0Z false O) (yf 64 kz++ds))) 6 [.v 61 (.pointer (some ⟨I,0,none⟩)),.v 62 (.pointer (some ⟨I,0,none⟩)),.v 63 (.pointer (some ⟨I,6,none⟩)),.v 64 (.iface 287 (.pointer (some ⟨p,0,none⟩))),.v 65 (.pointer (some ⟨G,5,none⟩)),.v 66 V,.p 67 (fun _ _=>True)] (by exact⟨kW,trivial⟩) ⟨aE.out,aX.out,fun _=>Br.drew,fun h=>(by cases h)⟩ (fun f W W' h hb=>⟨qe h.1 hb,qe h.2.1 hb,fun e=>(h.2.2.1 e).trans (hb.mono (h.2.2.1 e).size),fun e=>by obtain⟨h1,ac,h2⟩:=h.2.2.2 e;exact⟨h1.trans (Spare.of_below _ hb) (fun _ _ h=>h),ac,yu h2 hb⟩⟩) ?_ ?_ ?_
  ·repeat' (with_reducible first|exact qx|refine qt ?_ ?_)
   all_goals try
    refine .inr ?_;intro A x W f hA X hf Z D K hK;have a6:=hA.2 6 (by decide);conv at a6=>rhs;whnf
    have a1:=hA.2 1 (by decide);conv at a1=>rhs;whnf
    simp only[QJ,QS]at D;clear Z hA;first
    | go_simp
      exact hK _ _ BR rfl
    | have y0:W.cell? ⟨I,6,none⟩=some (.iface 287 (.pointer (some ⟨p,0,none⟩))):=qa X.1 6
      have y1:W.cell? ⟨G,5,none⟩=some V:=qa X.2.1 5;go_simp
      exact hK _ _ BR rfl
   any_goals exact .inl rfl
  ·intro A x W hA X Z K hK;have bT:=gw hA Z 3 64;have bS:=gw hA Z 5 66;clear Z hA;have hB:=X.2.2.1 rfl;go_simp
   refine Ya (f:=266) (by kernel_rfl) ?_;go_simp
   have bq:Hold W V ds:=HD.out.below (U▸aw.out.trans (hB.mono (by omega)));refine(JS (h0Z false O) (yf 64 kz) ds (QK false O) (YJ HK.out.1) p hv V W (yu am.out hB) bq (fun aG b hb=>⟨fun e=>by have:=Yo HD.out aG hb;omega,fun e=>by have:=Yo HD.out aG hb;have:=ap.out b e;omega⟩) (by have:=YI (n:=64) (key:=kz) (by omega);have:=aT.out;omega)).mono ?_;rintro e w' ⟨rfl,⟨ac,bw, -⟩,ak⟩
   refine hK _ _ (fun h=>by cases h) ⟨(ak.block I (Ai X.1).1 ⟨fun e=>bg e.symm,qaa (yu am.out hB) X.1 (by decide)⟩).trans X.1,(ak.block G (Ai X.2.1).1 ⟨by omega,fun e=>by have:=ap.out G e;omega⟩).trans X.2.1,fun h=>(by cases h),fun _=>⟨(Spare.of_below _ hB).trans ak (fun _ _ h=>h),ac,bw⟩⟩ ⟨.inr (fun _ h=>h),.inr (fun _ h=>h),.inr (fun _ h=>h),.inr (fun _ h=>h),.inr (fun _ h=>h),.inr (fun _ h=>h),.inl rfl,trivial⟩ trivial
  intro x W X bh;obtain⟨a7, -⟩:=bh;change ((fun _ _=>True)) (x 67) W at a7
  simp only[Qx,Act.put,Ls];obtain⟨bc,aj, -,h9⟩:=X;obtain⟨aI,bx,aD⟩:=h9 rfl;have a3:Below G w W:=aw.out.trans (aI.below (by omega) (fun k hk=>⟨by omega,fun e=>by have:=ap.out k e;omega⟩));have bR:W.cell? ⟨G,4,none⟩=some (.int .i64 o):=qa aj 4;have bP:G<W.heap.size:=(Ai aj).1;have bu:=hid bc;have bA:=hid aD;have bp:=hid a3;clear bc aj h9 aI aD a3 a7 aE am aX aw;go_wp2_with fail
  have ho:=HO.out;obtain⟨m,hm⟩: ∃m:Nat,o=(m:Int):=⟨o.toNat,by omega⟩;have an:1≤m∧m≤32:=by omega
  clear ho HO;subst hm;have av:(((yf 64 kz)++ds).length:Int)≤281474976710656:=by
   have:=YI (n:=64) (key:=kz) (by omega)
   have:=aT.out
   rw[List.length_append];omega
  have bb: ∀z∈yf 64 kz++ds,0≤z∧z≤255:=fun z hz=>by
   rcases List.mem_append.1 hz with hz|hz
   ·exact YJ HK.out.1 z hz
   ·exact HD.out.1 z hz
  refine(qbE (h0Z false O) (yf 64 kz++ds) (QK false O) bb I p m dg 0 J aK bd bx _ bu.out bA.out av an.1 an.2).mono ?_;rintro e w5 ⟨⟨v5,rfl,aP⟩,aU⟩;have bE:=hid (show Fresh w.heap.size w5 v5 (qbb false O kz J (m:Nat) ds) from by have h:=aP.le (b':=w.heap.size) (by omega);unfold qbb;exact h);have bJ:=hid (show Below G w w5 from bp.out.trans (aU.mono (by omega)));clear aP aU av bb an;go_wp2
  go_ret2
  exact⟨⟨_,rfl,bE.out⟩,by rw[U];exact bJ.out⟩
def DecIs (big:Bool)(bs:List Int)(base:Nat)(w':World)(cs:Array Value):Prop:=
 cs.size=11∧cs.all (·.oneCell')=true∧ ∃sa pe,Value.agg cs=parN (Ye big false bs) sa pe∧w'.ownsRow base 5 1 sa (Yv big bs).length ((Yv big bs).map qp)∧w'.ownsRow base 5 1 pe (YH big bs).length ((YH big bs).map qp)
def qcc (big:Bool)(bs:List Int)(w:World)(e:Ending)(w':World):Prop:=
 (∃cs,e= .returned (.tuple #[.agg cs,.int .i64 0])∧DecIs big bs w.heap.size w' cs)∧Below w.heap.size w w'
theorem qhh {big:Bool}{o:List Int}{base:Nat}{w':World}{D G:Value}(q:w'.ownsRow base 5 1 D (Yv big o).length ((Yv big o).map qp))(I:w'.ownsRow base 5 1 G (YH big o).length ((YH big o).map qp)):
  ∃cs,parN (Ye big false o) D G= .agg cs∧DecIs big o base w' cs:=by
 obtain⟨a1,O,c1,rfl⟩:=qu q;obtain⟨a2,J,c2,rfl⟩:=qu I;refine⟨_,rfl,rfl,?_,_,_,rfl,q,I⟩;simp[Value.oneCell']
theorem DecIs.mono {big:Bool}{q:List Int}{base b':Nat}{w w':World}{cs:Array Value}(h:DecIs big q base w cs)(D:b'≤base)(o: ∀g,base≤g→g<w.heap.size→w'.heap[g]? =w.heap[g]?):DecIs big q b' w' cs:=by
 obtain⟨U,G,J,O,e,I,S⟩:=h;exact⟨U,G,J,O,e,ownsRow_le (qi I o) D,ownsRow_le (qi S o) D⟩
theorem yE {W:World}{base n b:Nat}{v:Value}{D:List Value}{c cs:Array Value}{T:TypeId}(h:W.ownsRow base 5 1 v n D)(S:W.heap[b]? =some (.cells c T (0,0)))(I:T≠5):(W.setRow b cs).ownsRow base 5 1 v n D:=by
 refine⟨h.1,?_⟩;rcases h.2 with o|⟨g,q,G,e,J,o,O⟩
 ·exact .inl o
 ·refine .inr ⟨g,q,G,e,J,?_,O⟩;rw[setRow_other _ _ _ _ ?_];exact o;rintro rfl
  rw[S]at o;simp only[Option.some.injEq,Obj.cells.injEq]at o;exact I o.2.1
theorem qgi {big:Bool}{q:List Int}{o b':Nat}{W:World}{cs c ds:Array Value}(h:DecIs big q o W cs)(G:W.heap[o]? =some (.cells c 171 (0,0)))(D:b'≤o):DecIs big q b' (W.setRow o ds) cs:=by
 obtain⟨V,I,O,S,e,J,U⟩:=h;exact⟨V,I,O,S,e,ownsRow_le (yE J G (by decide)) D,ownsRow_le (yE U G (by decide)) D⟩
theorem qbx (big:Bool)(V:List Int)(bv:Value)(w:World)(hB:Hold w bv V)(ae:okD big false V):
  Calls Tryz.prog 120 #[.int .i64 (kB big),bv] w fun e w'=>qcc big V w e w':=by
 obtain⟨q,G⟩:=Ex w.heap.size;have X:Below q w (w.alloc (.cells #[.int .i64 0,.int .i64 0,.int .i64 0,.int .i64 0,.int .u32 0,.int .u64 0,.int .u32 0,.int .i64 0,.int .i64 0,.slice none 0 0,.slice none 0 0] 171)):=by rw[←G];exact Br.alloc Nl _
 have J:=Wn w (.cells #[.int .i64 0,.int .i64 0,.int .i64 0,.int .i64 0,.int .u32 0,.int .u64 0,.int .u32 0,.int .i64 0,.int .i64 0,.slice none 0 0,.slice none 0 0] 171);rw[G]at J;have HB:=hid hB;have al:=hid ae;clear hB ae;go_enter Tryz.func120,Tryz.ntmps120
 go_wp2_with fail
 generalize w.alloc (.cells #[.int .i64 0,.int .i64 0,.int .i64 0,.int .i64 0,.int .u32 0,.int .u64 0,.int .u32 0,.int .i64 0,.int .i64 0,.slice none 0 0,.slice none 0 0] 171)=wA at*;refine(qcs big V bv wA (HB.out.below (G▸X)) al.out).mono ?_;rintro e O ⟨⟨sa,pe,rfl,o1,o2⟩,I⟩;obtain⟨cs,ad,af⟩:=qhh o1 o2;rw[ad];have aj:q<wA.heap.size:=(Ai J).1;have am:=I.size;have ag:=qe J I;have ac:Below q w O:=X.trans (I.mono (by omega));have Y:=af.mono (b':=q) (w':=O) (by omega) (fun _ _ _=>rfl);have aa:=hid ag;have ab:=hid ac;have o:=hid Y;clear o1 o2 ad I af ag ac X J Y;go_upto_region 2 with((with_reducible show wpList _ _ _ (Oper.mk none (Op.store 171 (Operand.tmp 6) _) _ _ _ _::_) _ _);refine wpList_store_row rfl 171 _ _ rfl O.heap.size cs rfl rfl 171 _ (Wn _ _) (by rw[o.out.1];kernel_rfl) (by rw[o.out.1];rfl) o.out.2.1 ?_)
 refine qj ?_;intro W U;obtain⟨Z,S⟩:=Ex O.heap.size;have r6:W.heap[Z]? =some (.cells cs 171 (0,0)):=by rw[U,←S];exact setRow_heap _ _ _ _ _ _ (Wn _ _)
 have r0:W.heap[q]? =some (.cells #[.int .i64 0,.int .i64 0,.int .i64 0,.int .i64 0,.int .u32 0,.int .u64 0,.int .u32 0,.int .i64 0,.int .i64 0,.slice none 0 0,.slice none 0 0] 171 (0,0)):=by rw[U];exact(setRow_other (O.alloc _) _ _ _ (by omega)).trans ((Bh _ _ _ (by omega)).trans aa.out)
 have ai:Below q w W:=by rw[U];exact below_setRow (ab.out.alloc (by omega) _) (by omega) _
 have ah:DecIs big V q W cs:=o.out.mono Nl (fun g hg ak=>by rw[U];exact(setRow_other (O.alloc _) _ _ _ (by omega)).trans (Bh _ _ _ ak));rw[S];have ao:q<Z:=by omega
 have ap:Z<W.heap.size:=(Ai r6).1;clear U S aa ab o am aj;have R6:=hid r6;have R0:=hid r0;have an:=hid ai;have D:=hid ah;clear r6 r0 ai ah;go_wp2_with (first|((with_reducible show wpList _ _ _ (Oper.mk (some 22) _ _ _ _ _::_) _ _);refine wpList_load_row rfl 171 _ rfl Z rfl _ _ _ _ R6.out Tryz.underlying171 rfl (by rw[D.out.1];kernel_rfl) ?_)|((with_reducible show wpList _ _ _ (Oper.mk none (Op.store 171 (Operand.tmp 4) _) _ _ _ _::_) _ _);refine wpList_store_row rfl 171 _ _ rfl q cs rfl rfl 171 _ R0.out (by rw[D.out.1];kernel_rfl) (by rw[D.out.1];rfl) D.out.2.1 ?_))
 exact Bp (qC rfl _ _ q 171 _ _ _ rfl (setRow_heap _ _ _ _ _ _ R0.out) Tryz.underlying171 rfl (by rw[D.out.1];kernel_rfl)) rfl (show qcc _ _ _ _ _ from⟨⟨cs,rfl,qgi D.out R0.out (by omega)⟩,by rw[G];exact below_setRow an.out Nl _⟩)
def TreeV.vN (t:TreeV)(row at_:Nat)(f:Nat):Nat:=
 if f=1 then t.d.toNat else if f=2 then t.kl else if f=3 then t.f.toNat else if f=4 then t.p.toNat else if f=5 then t.l.toNat else if f=6 then at_ else if f=8 then row else if f=9 then t.i.toNat else 0
def TreeV.big (t:TreeV):Bool:=decide (t.k=1)
theorem YW {t:TreeV}(h:t.validE=0):kB t.big=t.k:=by
 have:=(qq h).1
 unfold TreeV.big kB;rcases this with e|e<;>rw[e]<;>rfl
theorem yH {t:TreeV}(h:t.validE=0):((mB t.big:Nat):Int)=Yu t.k∧((sB t.big:Nat):Int)=jq t.k:=by
 have:=(qq h).1
 unfold TreeV.big mB sB Yu jq;rcases this with e|e<;>rw[e]<;>exact⟨rfl,rfl⟩
theorem qae {t:TreeV}(h:t.validE=0)(J:0≤t.l∧t.l≤4294967295){row at_:Nat}(X:row≤255)(D:at_<281474976710656):ParOk t.big (t.vN row at_):=by
 obtain⟨G,q,I,V,S,Y,O,U,Z,o, -, -⟩:=qq h;obtain⟨hm, -⟩:=yH h;refine⟨⟨?_,?_,?_,?_,⟨?_,fun _=>?_⟩,?_,?_⟩,?_,?_,rfl⟩;all_goals simp only[TreeV.vN,if_true,if_false,Nat.reduceEqDiff]
 all_goals omega
def TreeV.blk (t:TreeV)(z1 z2:List Int)(row at_:Nat):List Int:=QI t.big (t.vN row at_) z1 z2
theorem TreeV.parN {t:TreeV}(h:t.validE=0)(S:0≤t.l∧t.l≤4294967295)(row at_:Nat)(o q:Value):
  parN (t.vN row at_) o q= .agg #[.int .i64 t.d,.int .i64 (t.kl:Nat),.int .i64 t.f,.int .i64 t.p,.int .u32 t.l,.int .u64 (at_:Nat),.int .u32 0,.int .i64 (row:Nat),.int .i64 t.i,o,q]:=by
 obtain⟨J,I,O,Y,V,Z,U,X,h9,G, -, -⟩:=qq h;have e: ∀z:Int,0≤z→((z.toNat:Nat):Int)=z:=fun z D=>Int.toNat_of_nonneg D
 unfold Go.Proofs.YthjoojnlnlmljaaGreat.parN yK;simp only[TreeV.vN,if_true,if_false,Nat.reduceEqDiff];rw[e t.d (by omega),e t.f (by omega),e t.p (by omega),e t.l (by omega),e t.i (by omega)];rfl
theorem yW {W:World}{B n g:Nat}{v:Value}{G:List Value}{c:Array Value}{T:TypeId}{fr:Nat×Nat}(h:W.ownsRow B 5 1 v n G)(V:W.heap[g]? =some (.cells c T fr))(o:Nat)(u:Value)(J:T≠5):(W.setCell ⟨g,o,none⟩ u).ownsRow B 5 1 v n G:=by
 refine⟨h.1,?_⟩;rcases h.2 with q|⟨U,D,I,e,O,q,S⟩
 ·exact .inl q
 ·refine .inr ⟨U,D,I,e,O,?_,S⟩;rw[heap_setCell_other W _ _ _ ?_];exact q;rintro rfl
  rw[V]at q;simp only[Option.some.injEq,Obj.cells.injEq]at q;exact J q.2.1
def TreeV.outN (t:TreeV)(rt:Bool):Int:=if rt then t.d else t.i
def Jb (row:Nat)(kz:List Int):List Int:=if row=0 then kz else []
end Go.Proofs.YthjoojnlnlmljaaGreat
