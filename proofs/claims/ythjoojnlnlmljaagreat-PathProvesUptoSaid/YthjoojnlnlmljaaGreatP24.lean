/- A block of parameters out of its numbers, by the program. No condition. -/
import Derived.Test.YthjoojnlnlmljaaGreatP22
import Derived.Test.YthjoojnlnlmljaaGreatP16
import Derived.Test.YthjoojnlnlmljaaGreatP23
import Derived.Test.YthjoojnlnlmljaaGreatP21
import Derived.Test.YthjoojnlnlmljaaGreatP20
import Derived.Test.YthjoojnlnlmljaaGreatP04
import Derived.Great.BuildSlice
import Derived.Laws.CopyOwn
set_option linter.all false
set_option maxRecDepth 100000
set_option maxHeartbeats 8000000
namespace Go.Proofs.YthjoojnlnlmljaaGreat
open Go.ChangeShapes Go.WideShapes Go.ChangeAt Go.RowKit Go.Joins Go.Shelf Go.Maps
open Go.Lib (hid)
attribute [local go_sem] Oper.semAt_some
theorem qgK {big:Bool}{v:Nat→Nat}(D:ParOk big v)(a1 a2:Option Addr){q o:Nat}(c1 c2:Nat)(G:q≤sB big)(r:o≤sB big)(w:World):
  Calls Tryz.prog 130 #[.int .i64 (kB big),parN v (.slice a1 q c1) (.slice a2 o c2)] w fun e w'=>e= .returned (.int .i64 0)∧Below w.heap.size w w':=by
 unfold parN;rw[D.x0];exact qbO big _ _ _ _ _ _ _ _ a1 a2 q o c1 c2 w D.p G r
theorem qgG (big:Bool)(v:Nat→Nat)(z1 z2:List Int)(sa pe:Value)(w:World)(hP:ParOk big v)(h1:Hold w sa z1)(h2:Hold w pe z2)(X:z1.length≤sB big)(U:z2.length≤sB big):
  Calls Tryz.prog 100 #[.int .i64 (kB big),parN v sa pe] w fun e w'=>(∃r,e= .returned (.tuple #[r,.int .i64 0])∧w'.ownsRow w.heap.size 5 1 r (mB big) ((Q4 big v z1 z2).map qt))∧Below w.heap.size w w':=by
 obtain⟨a1,c1,rfl,bx,bF⟩:=h1.slice;obtain⟨a2,c2,rfl,bQ,bC⟩:=h2.slice;obtain⟨i0,hi,bv,aD,bu⟩:=info_parts Qr;obtain⟨o,am⟩:=Ex w.heap.size;have aG:=hid (qgK hP a1 a2 c1 c2 X U);have bg:Below o w (w.alloc (.cells #[.int .i64 (v 1:Nat),.int .i64 (v 2:Nat),.int .i64 (v 3:Nat),.int .i64 (v 4:Nat),.int .u32 (v 5:Nat),.int .u64 (v 6:Nat),.int .u32 (v 7:Nat),.int .i64 (v 8:Nat),.int .i64 (v 9:Nat),.slice a1 z1.length c1,.slice a2 z2.length c2] 171)):=by rw[←am];exact Br.alloc Nl _
 have al:=Wn w (.cells #[.int .i64 (v 1:Nat),.int .i64 (v 2:Nat),.int .i64 (v 3:Nat),.int .i64 (v 4:Nat),.int .u32 (v 5:Nat),.int .u64 (v 6:Nat),.int .u32 (v 7:Nat),.int .i64 (v 8:Nat),.int .i64 (v 9:Nat),.slice a1 z1.length c1,.slice a2 z2.length c2] 171);rw[am]at al;have bG:=hid h1;have bK:=hid h2;have ay:=hid hP;have ax:=hid X;have au:=hid U;clear hP h1 h2 X U bx bF bQ bC;unfold parN parV;unfold parN parV at aG;go_enter Tryz.func100,Tryz.ntmps100
 go_upto_region 1 with(fail)
 generalize w.alloc (.cells #[.int .i64 (v 1:Nat),.int .i64 (v 2:Nat),.int .i64 (v 3:Nat),.int .i64 (v 4:Nat),.int .u32 (v 5:Nat),.int .u64 (v 6:Nat),.int .u32 (v 7:Nat),.int .i64 (v 8:Nat),.int .i64 (v 9:Nat),.slice a1 z1.length c1,.slice a2 z2.length c2] 171)=wA at*;go_wp2_with ((with_reducible show wpList _ _ _ (Oper.mk _ (Op.load 171 _) _ _ _ _::_) _ _);refine wpList_load_row rfl 171 _ rfl o rfl _ _ _ _ al Tryz.underlying171 rfl (by kernel_rfl) ?_)
 refine(aG.out wA).mono ?_;rintro e w1 ⟨rfl,az⟩;have be:=qg al az;have aj:=az.size;have bl:o<wA.heap.size:=(Ai al).1;have bR:o<w1.heap.size:=by omega
 have a8:=hid be;have aZ:=hid (show Below o w w1 from bg.trans (az.mono (by omega)));clear az bg al be aj bl aG;go_wp2_with fail
 refine(Z1 big _).mono ?_;rintro e w2 ⟨rfl,hw⟩;rw[hw];clear hw w2;obtain⟨M,hM⟩:=Ex (mB big);obtain⟨S,hS⟩:=Ex (sB big);have bP:4*S=M:=by rw[←hM,←hS];cases big<;>rfl
 have bL:8≤S∧S≤16:=by rw[←hS];cases big<;>decide
 rw[hM,hS];have bd:=fun W:World=>run_make (P:=Tryz.prog) W 24 5 i0 (.int .u8 0) Tryz.underlying24 hi bv .i64 .i64 M M (by omega) (by omega) (by rw[bu];omega) (by omega)
 simp only[aD]at bd;go_wp2_with fail
 obtain⟨g,hg⟩:=Ex w1.heap.size;have bi:madeCells #[.int .u8 0] M=((List.replicate M (0:Int)).map qt).toArray:=by
  apply Array.toList_inj.1
  rw[toList_madeCells_one];simp[qt]
 have aS:RowB (w1.alloc (.cells (madeCells #[.int .u8 0] M) 5)) g (QB big (v 7==0) v 0):=by
  unfold RowB;rw[bi,←hg,←hM];exact Wn _ _
 have a4:Below o w (w1.alloc (.cells (madeCells #[.int .u8 0] M) 5)):=aZ.out.alloc (by omega) _;have bj:(w1.alloc (.cells (madeCells #[.int .u8 0] M) 5)).heap[o]? =some (.cells #[.int .i64 (v 1:Nat),.int .i64 (v 2:Nat),.int .i64 (v 3:Nat),.int .i64 (v 4:Nat),.int .u32 (v 5:Nat),.int .u64 (v 6:Nat),.int .u32 (v 7:Nat),.int .i64 (v 8:Nat),.int .i64 (v 9:Nat),.slice a1 z1.length c1,.slice a2 z2.length c2] 171 (0,0)):=by
  rw[Bh _ _ _ (by omega)];exact a8.out
 have bz:(w1.alloc (.cells (madeCells #[.int .u8 0] M) 5)).heap.size=g+1:=by simp[hg]
 rw[hg];generalize w1.alloc (.cells (madeCells #[.int .u8 0] M) 5)=w5 at*;refine(qhd big _).mono ?_;rintro e w6 ⟨⟨rb,rfl,cb,aR⟩,ai⟩;have b7:=ai.size;have bw:=hid (show RowB w6 g (QB big (v 7==0) v 0) from(ai.block g (by omega)).trans aS);have bO:=hid ((ai.block o (by omega)).trans bj);have bJ:=hid (show Below o w w6 from a4.trans (ai.mono (by omega)));obtain⟨a6,ap,aa⟩:=aR;have bW:rb<w6.heap.size:=(Ai ap).1;have bm:=hid ap;have bn:=hid aa;have b8:o<g∧g<rb:=by omega
 clear aS bj a4 ai ap aa bi bd a8 aZ bz;go_wp2_with fail
 go_loopw [30] (fun i wr=> ∃k:Nat,i= .int .i64 (k:Nat)∧k≤9∧RowB wr g (QB big (v 7==0) v k)∧But g w6 wr) (fun i _=>9 - (intOf i).toNat)
 case atStart=>exact⟨0,rfl,by omega,bw.out,But.refl _ _⟩
 case round=>
  obtain⟨k,rfl,hk,aa,hb⟩:=hrel;have HW:=hid aa;have HB:=hid hb;have bE:=hb.size;have ae:=QU big (v 7==0) v k hk;have av:wr.heap[o]? =some (.cells #[.int .i64 (v 1:Nat),.int .i64 (v 2:Nat),.int .i64 (v 3:Nat),.int .i64 (v 4:Nat),.int .u32 (v 5:Nat),.int .u64 (v 6:Nat),.int .u32 (v 7:Nat),.int .i64 (v 8:Nat),.int .i64 (v 9:Nat),.slice a1 z1.length c1,.slice a2 z2.length c2] 171 (0,0)):=(hb.block o (by omega) (by omega)).trans bO.out;by_cases aY:k<9
  case pos=>
   obtain⟨nm,ag,q0,q1,q2,q3,q4,q5,q6⟩:=bn.out k aY;have ba:=hid ((hb.block rb (by omega) (by omega)).trans bm.out);have HQ:=hid (show ∀j,j<5→a6[k*5+j]? =(#[.int .i64 ((k+1:Nat):Int),.int .i64 (atB big (k+1):Nat),.int .i64 (szB big (k+1):Nat),nm,ag]:Array Value)[j]? from fun j hj=>by
    rcases(show j=0∨j=1∨j=2∨j=3∨j=4 by omega)with rfl|rfl|rfl|rfl|rfl
    ·exact q0
    ·exact q1
    ·exact q2
    ·exact q3
    ·exact q4)
   have H1:=hid (show(#[.int .i64 ((k+1:Nat):Int),.int .i64 (atB big (k+1):Nat),.int .i64 (szB big (k+1):Nat),nm,ag]:Array Value).all (·.oneCell')=true by simp only[List.all_toArray,List.all_cons,List.all_nil,q5,q6];rfl);have b5:(k:Int)<9:=by omega
   have an:=hid av;clear q0 q1 q2 q3 q4 q5 q6 aa hb av;go_upto_region 9 with(first|((with_reducible show wpList _ _ _ (Oper.mk _ (Op.load 219 _) _ _ _ _::_) _ _);refine wpList_plain rfl fun K hK=>Qf 219 _ rfl rb (k*5) (by kernel_rfl) 219 a6 #[.int .i64 ((k+1:Nat):Int),.int .i64 (atB big (k+1):Nat),.int .i64 (szB big (k+1):Nat),nm,ag] (0,0) _ ba.out Tryz.underlying219 rfl (by kernel_rfl) HQ.out (hK _ _ ?_))|((with_reducible show wpList _ _ _ (Oper.mk none (Op.store 219 _ _) _ _ _ _::_) _ _);refine wpList_store_row rfl 219 _ _ rfl wr.heap.size #[.int .i64 ((k+1:Nat):Int),.int .i64 (atB big (k+1):Nat),.int .i64 (szB big (k+1):Nat),nm,ag] rfl rfl 219 _ (Wn _ _) (by kernel_rfl) rfl H1.out ?_))
   refine qn ?_;intro Wq aF;obtain⟨q,hq⟩:=Ex wr.heap.size;have ar:Wq.heap[q]? =some (.cells #[.int .i64 ((k+1:Nat):Int),.int .i64 (atB big (k+1):Nat),.int .i64 (szB big (k+1):Nat),nm,ag] 219 (0,0)):=by rw[aF,←hq];exact setRow_heap _ _ _ _ _ _ (Wn _ _)
   have ab:Below q wr Wq:=by rw[aF,←hq];exact below_setRow (Br.alloc Nl _) Nl _
   rw[hq];have b6:g<q∧o<q:=by omega
   have aV:But g w6 Wq:=HB.out.trans ⟨ab.os,ab.tape,ab.output,ab.size,fun j hj _=>ab.block j (by omega)⟩;have aO:=hid (show RowB Wq g (QB big (v 7==0) v k) from(ab.block g (by omega)).trans HW.out);have aJ:=hid ((ab.block o (by omega)).trans an.out);have aQ:=hid ar;have aK:=hid aV;have bD:q<Wq.heap.size:=(Ai ar).1;have c0:Wq.cell? ⟨q,0,none⟩=some (.int .i64 ((k+1:Nat):Int)):=qd ar 0;clear aF hq ba HQ H1 HW HB an ar ab aV;by_cases h7:k=6
   case pos=>
    subst h7;have c6:Wq.cell? ⟨o,6,none⟩=some (.int .u32 (v 7:Nat)):=qd aJ.out 6;have bX:o<Wq.heap.size:=by omega
    have ca:((v 7:Int)==0)=true:=by rw[ay.out.x0];rfl
    go_wp2
    refine⟨⟨7,rfl,by omega,?_,aK.out⟩,by simp[intOf]⟩;have e:QB big (v 7==0) v 7=QB big (v 7==0) v 6:=by rw[QB,if_pos ⟨rfl,by rw[ay.out.x0];rfl⟩]
    rw[e];exact aO.out
   have h8: ¬((k:Int)=6):=by omega
   have bp:szB big (k+1)≤8∧atB big (k+1)+szB big (k+1)≤M:=by
    rw[←hM];rcases(show k=0∨k=1∨k=2∨k=3∨k=4∨k=5∨k=6∨k=7∨k=8 by omega)with rfl|rfl|rfl|rfl|rfl|rfl|rfl|rfl|rfl<;>cases big<;>decide
   have aT:=hid bp;go_upto_region 10 with(fail)
   refine qE (n:=9) (w0:=Wq) (B:=Wq.heap.size) [.v 42 (.slice (some ⟨g,0,none⟩) M M),.v 43 (.pointer (some ⟨q,1,none⟩)),.v 44 (.int .i64 (atB big (k+1):Nat)),.v 45 (.pointer (some ⟨q,2,none⟩)),.v 46 (.int .i64 (szB big (k+1):Nat)),.v 47 (.agg #[.int .i64 (v 1:Nat),.int .i64 (v 2:Nat),.int .i64 (v 3:Nat),.int .i64 (v 4:Nat),.int .u32 (v 5:Nat),.int .u64 (v 6:Nat),.int .u32 (v 7:Nat),.int .i64 (v 8:Nat),.int .i64 (v 9:Nat),.slice a1 z1.length c1,.slice a2 z2.length c2]),.v 48 (.pointer (some ⟨q,0,none⟩)),.v 49 (.int .i64 ((k+1:Nat):Int)),.v 50 (.int .u64 (v (k+1):Nat))] trivial Br.drew Nl ?_ ?_
   ·repeat' (with_reducible first|exact qz|refine qx ?_ ?_)
    all_goals try
     intro A x W J G V I D K hK;have ak:=J.2 10 (by decide);conv at ak=>rhs;whnf
     have bM:=J.2 12 (by decide);conv at bM=>rhs;whnf
     simp only[QW,Q8]at D;clear I J;have y:=qg aQ.out G;have y0:W.cell? ⟨q,0,none⟩=some (.int .i64 ((k+1:Nat):Int)):=qd y 0;have y1:W.cell? ⟨q,1,none⟩=some (.int .i64 (atB big (k+1):Nat)):=qd y 1;have y2:W.cell? ⟨q,2,none⟩=some (.int .i64 (szB big (k+1):Nat)):=qd y 2;have y3:q<W.heap.size:=by omega
     go_simp
     exact hK _ _ BR rfl
    ·intro A x W J G V I _ K hK;have a3:=J.2 3 (by decide);conv at a3=>rhs;whnf
     clear I J;exact Qf 171 _ rfl o 0 a3 171 #[.int .i64 (v 1:Nat),.int .i64 (v 2:Nat),.int .i64 (v 3:Nat),.int .i64 (v 4:Nat),.int .u32 (v 5:Nat),.int .u64 (v 6:Nat),.int .u32 (v 7:Nat),.int .i64 (v 8:Nat),.int .i64 (v 9:Nat),.slice a1 z1.length c1,.slice a2 z2.length c2] #[.int .i64 (v 1:Nat),.int .i64 (v 2:Nat),.int .i64 (v 3:Nat),.int .i64 (v 4:Nat),.int .u32 (v 5:Nat),.int .u64 (v 6:Nat),.int .u32 (v 7:Nat),.int .i64 (v 8:Nat),.int .i64 (v 9:Nat),.slice a1 z1.length c1,.slice a2 z2.length c2] (0,0) _ (qg aJ.out G) Tryz.underlying171 rfl (by kernel_rfl) (fun j _=>by rw[Nat.zero_add]) (hK _ _ BR rfl)
    ·intro A x W J G V I _ K hK;have b9:=gv J I 5 47;have bZ:=gv J I 7 49;clear I J;go_simp
     refine(show Calls Tryz.prog 136 #[.agg #[.int .i64 (v 1:Nat),.int .i64 (v 2:Nat),.int .i64 (v 3:Nat),.int .i64 (v 4:Nat),.int .u32 (v 5:Nat),.int .u64 (v 6:Nat),.int .u32 (v 7:Nat),.int .i64 (v 8:Nat),.int .i64 (v 9:Nat),.slice a1 z1.length c1,.slice a2 z2.length c2],.int .i64 ((k+1:Nat):Int)] W _ from qgW ay.out (.slice a1 z1.length c1) (.slice a2 z2.length c2) (k+1) (by omega) (by omega) W).mono ?_;rintro r w3 ⟨rfl,aP⟩
     exact hK _ _ aP rfl
   intro x W G V ac;clear ac;refine qp ?_;simp only[QF,Act.put,Ls];have bA:=hid (show RowB W g (QB big (v 7==0) v k) from(G.block g (by omega)).trans aO.out);have bI:=hid (show But g w6 W from aK.out.trans ⟨G.os,G.tape,G.output,G.size,fun j hj _=>G.block j (by omega)⟩);clear c0 G V aO aJ aQ aK bD;go_wp2_with fail
   refine(qiV (QB big (v 7==0) v k) g M M (atB big (k+1)) (szB big (k+1)) aT.out.1 (by rw[ae,hM];exact aT.out.2) (by rw[ae,hM]) Nl (by omega) (v (k+1)) (ay.out.le (k+1) (by omega) (by omega)) W bA.out).mono ?_;rintro r w4 ⟨rfl,X,U⟩;have ax:=hid X;have au:=hid U;clear X U;go_wp2_with fail
   refine qw ?_;go_wp2
   refine⟨⟨k+1,rfl,by omega,?_,bI.out.trans au.out⟩,by simp[intOf];omega⟩;have e:QB big (v 7==0) v (k+1)=Qj (QB big (v 7==0) v k) (atB big (k+1)) (qZ (v (k+1)) (szB big (k+1))):=by rw[QB,if_neg (fun h=>h7 (by omega))]
   rw[e];exact ax.out
  obtain rfl:k=9:=by omega
  clear aY hk;have aw:=hid (show Q4 big v z1 z2=Qj (Qj (QB big (v 7==0) v 9) (2*S) z1) (3*S) z2 by rw[←hS];rfl);have hE:(QB big (v 7==0) v 9).length=M:=ae.trans hM;obtain⟨E,a5⟩: ∃E,QB big (v 7==0) v 9=E:=⟨_,rfl⟩;rw[a5]at hE aw HW;clear aa hb ae a5;obtain⟨O,aW⟩:=Ex (2*S);obtain⟨Y,bc⟩:=Ex (3*S);rw[aW,bc]at aw;have e2:(M:Int) - 2*(S:Int)=(O:Int):=by omega
  have e3:(M:Int) - (S:Int)=(Y:Int):=by omega
  have aM:z1.length≤S:=by have:=ax.out;omega
  have aH:z2.length≤S:=by have:=au.out;omega
  have bf:O+S≤M∧Y+S≤M∧O<M∧Y<M∧S≤16∧M≤64:=by omega
  have af:=hid bf;have aU:=hid aM;have bb:=hid aH;have HE:=hid hE;have cc: ¬(M=O):=by omega
  have ce: ¬(M=Y):=by omega
  have k2:(O:Int)≤(M:Int):=by omega
  have k3:(Y:Int)≤(M:Int):=by omega
  have an:=hid av;have bT:o<wr.heap.size∧g<wr.heap.size:=by omega
  have b3:IntKind.i64.wrap (2*(S:Int))=2*(S:Int):=by rw[IntKind.wrap_i64];omega
  have b4:IntKind.i64.wrap (O:Int)=(O:Int):=by rw[IntKind.wrap_i64];omega
  have cd:IntKind.i64.wrap (Y:Int)=(Y:Int):=by rw[IntKind.wrap_i64];omega
  have bH:=hid (show Below o w wr from bJ.out.trans (HB.out.below (by omega) (by omega)));clear bP bL aM aH bf aW bc hE av bE;go_upto_region 12 with(fail)
  refine qE (n:=8) (w0:=wr) (B:=wr.heap.size) [.v 53 (.slice (some ⟨g,0,none⟩) M M),.v 54 (.int .i64 M),.v 55 (.int .i64 S),.v 56 (.int .i64 (2*(S:Int))),.v 57 (.int .i64 O),.v 58 (.slice (some ⟨g,O,none⟩) (M - O) (M - O)),.v 59 (.pointer (some ⟨o,9,none⟩)),.v 60 (.slice a1 z1.length c1)] trivial Br.drew Nl ?_ ?_
  ·repeat' (with_reducible first|exact qz|refine qx ?_ ?_)
   all_goals
    intro A x W J G V I D K hK;have a3:=J.2 3 (by decide);conv at a3=>rhs;whnf
    have ak:=J.2 10 (by decide);conv at ak=>rhs;whnf
    have a7:=J.2 7 (by decide);conv at a7=>rhs;whnf
    have a9:=J.2 9 (by decide);conv at a9=>rhs;whnf
    simp only[QW,Q8]at D;clear I J;have y:=qg an.out G;have y0:W.cell? ⟨o,9,none⟩=some (.slice a1 z1.length c1):=qd y 9;have y3:o<W.heap.size:=by omega
    go_simp
    exact hK _ _ BR rfl
  intro x W G V ac;clear ac;refine qp ?_;simp only[QF,Act.put,Ls];have aq:Below o w W:=bH.out.trans (G.mono (by omega));have aj:=(bG.out.below (am▸aq)).src;have bh:W.heap[g]? =some (.cells (E.map qt).toArray 5 (0,0)):=(G.block g (by omega)).trans HW.out;have aB:=hid (qg an.out G);have X:O+z1.length≤(E).length:=by have:=af.out;have:=aU.out;have:=HE.out;omega
  have bq:=hid X;have aC:=hid aq;refine wpList_copy_splice rfl _ _ _ _ rfl 5 Tryz.underlying24 (by rw[hi];simp[aD]) _ _ _ _ _ _ rfl rfl g O (E.map qt) 5 bh (z1.map qt) (by rw[List.length_map];have:=af.out;have:=aU.out;exact(Nat.min_eq_left (by omega)).symm) (fun h0=>⟨rfl,by
   rcases aj.2.2 with⟨-,h2⟩|⟨ad,c,e,h2⟩
   ·rw[List.length_map]at h0;omega
   ·simp only[Value.slice.injEq]at e;exact⟨ad,e.1,h2⟩⟩) (by rw[List.length_map,List.length_map];exact X) aj.2.1 g W Br Nl ?_
  intro V1 ah Z;have bt:=hid (show RowB V1 g (Qj E O z1) from ah.out.trans (by unfold splice Qj;simp[List.append_assoc]));have bs:=hid (show Below o w V1 from aC.out.trans (Z.mono (by omega)));have aN:=hid ((Z.block o (by omega)).trans aB.out);have bV:o<V1.heap.size∧g<V1.heap.size:=by have:=Z.size;omega
  clear aj bh X ah Z aB aC aq G V;go_wp2_with fail
  refine qw ?_;go_upto_region 13 with(fail)
  refine qE (n:=7) (w0:=V1) (B:=V1.heap.size) [.v 62 (.slice (some ⟨g,0,none⟩) M M),.v 63 (.int .i64 M),.v 64 (.int .i64 S),.v 65 (.int .i64 Y),.v 66 (.slice (some ⟨g,Y,none⟩) (M - Y) (M - Y)),.v 67 (.pointer (some ⟨o,10,none⟩)),.v 68 (.slice a2 z2.length c2)] trivial Br.drew Nl ?_ ?_
  ·repeat' (with_reducible first|exact qz|refine qx ?_ ?_)
   all_goals
    intro A x W J G V I D K hK;have a3:=J.2 3 (by decide);conv at a3=>rhs;whnf
    have ak:=J.2 10 (by decide);conv at ak=>rhs;whnf
    have a7:=J.2 7 (by decide);conv at a7=>rhs;whnf
    have a9:=J.2 9 (by decide);conv at a9=>rhs;whnf
    simp only[QW,Q8]at D;clear I J;have y:=qg aN.out G;have y0:W.cell? ⟨o,10,none⟩=some (.slice a2 z2.length c2):=qd y 10;have y3:o<W.heap.size:=by omega
    go_simp
    exact hK _ _ BR rfl
  have aX:(Qj E O z1).length=M:=by rw[Qm bq.out];exact HE.out
  have bN:=hid aX;clear aX;intro x W G V ac;clear ac;refine qp ?_;simp only[QF,Act.put,Ls];have ao:Below o w W:=bs.out.trans (G.mono (by omega));have aI:=(bK.out.below (am▸ao)).src;have bk:W.heap[g]? =some (.cells ((Qj E O z1).map qt).toArray 5 (0,0)):=(G.block g (by omega)).trans bt.out;have aA:=hid (qg aN.out G);have U:Y+z2.length≤((Qj E O z1)).length:=by have:=af.out;have:=bb.out;have:=bN.out;omega
  have bU:=hid U;have aL:=hid ao;refine wpList_copy_splice rfl _ _ _ _ rfl 5 Tryz.underlying24 (by rw[hi];simp[aD]) _ _ _ _ _ _ rfl rfl g Y ((Qj E O z1).map qt) 5 bk (z2.map qt) (by rw[List.length_map];have:=af.out;have:=bb.out;exact(Nat.min_eq_left (by omega)).symm) (fun h0=>⟨rfl,by
   rcases aI.2.2 with⟨-,h2⟩|⟨ad,c,e,h2⟩
   ·rw[List.length_map]at h0;omega
   ·simp only[Value.slice.injEq]at e;exact⟨ad,e.1,h2⟩⟩) (by rw[List.length_map,List.length_map];exact U) aI.2.1 g W Br Nl ?_
  intro V2 ah Z;have br:=hid (show RowB V2 g (Qj (Qj E O z1) Y z2) from ah.out.trans (by unfold splice Qj;simp[List.append_assoc]));have bo:=hid (show Below o w V2 from aL.out.trans (Z.mono (by omega)));have bS:=hid ((Z.block o (by omega)).trans aA.out);have bY:o<V2.heap.size∧g<V2.heap.size:=by have:=Z.size;omega
  clear aI bk U ah Z aA aL ao G V;go_wp2_with fail
  refine qw ?_;go_wp2
  go_ret2
  have aE:=yq (big:=big) (v:=v) ax.out au.out;have aP:(Qj (Qj E O z1) Y z2).length=M:=by rw[←aw.out,aE,hM]
  refine⟨⟨_,rfl,by rw[List.length_map,aE];omega,.inr ⟨g,M,_,by rw[hM];rfl,by omega,br.out,by omega,by have:=af.out;unfold maxLen;omega,?_,?_⟩⟩,by rw[am];exact bo.out⟩
  ·rw[List.size_toArray,List.length_map,aP];omega
  ·rw[←aw.out];exact List.take_of_length_le (by rw[List.length_map,aE];omega)
theorem qgw (bs kz:List Int)(I:Int)(bv kv:Value)(w:World)(hB:Hold w bv bs)(hK:Hold w kv kz)(hl:bs.length=64)(ax:kz.length≤64):
  Calls Tryz.prog 98 #[.int .i64 1,bv,.int .i64 I,kv] w fun e w'=> ∃np p Z au ao,e= .returned (.pointer (some ⟨np,0,none⟩))∧w.heap.size≤np∧w.heap.size≤p∧w'.heap[np]? =some (.cells (yn 1 I au ao false 0 (.iface 277 (.pointer (some ⟨p,0,none⟩)))) 179 (0,0))∧QY true w' p Z (h0Z true bs) (yv 128 kz)∧(∀g,Z.ownBlock=some g→w.heap.size≤g)∧Below w.heap.size w w':=by
 obtain⟨i0,hi,ai,al,ae⟩:=info_parts Qr;obtain⟨b0,aA⟩:=Ex w.heap.size;have D:=hB.src;have J:=hK.src;rw[hl]at D;have aw:=hid D;have aq:=hid J;have ar:=hid hB.1;have ap:=hid hK.1;have HL:=hid hl;clear D J hB hK hl;go_enter Tryz.func98,Tryz.ntmps98
 go_upto_region 2 with(first|((with_reducible show wpList _ _ _ (Oper.mk (some 13) _ _ _ _ _::_) _ _);refine qT rfl _ _ _ rfl w w.heap.size rfl Br 5 i0 (.int .u8 0) 1 Tryz.underlying24 hi ai al ae rfl _ 0 [] rfl (Wo _ _ _ _) bv 64 _ rfl aw.out (by unfold maxLen;omega) (by omega) ?_;intro v1 w1 q am;have aa:=hid q;have V:=hid am;clear q am)|((with_reducible show wpList _ _ _ (Oper.mk (some 15) _ _ _ _ _::_) _ _);refine qT rfl _ _ _ rfl w1 w1.heap.size rfl Br 5 i0 (.int .u8 0) 1 Tryz.underlying24 hi ai al ae rfl _ 0 [] rfl (Wo _ _ _ _) kv kz.length _ rfl (aq.out.below V.out) (by unfold maxLen;omega) (by omega) ?_;intro v2 r o ak;obtain⟨a1,n1,c1,rfl⟩:=qs aa.out;obtain⟨a2,Y,c2,rfl⟩:=qs o;have aj:=hid o;have O:=hid ak;clear o ak))
 have D:=V.out.size;have J:=O.out.size;have U:Below r.heap.size r (r.alloc (.cells (yn 1 I (.slice a1 n1 c1) (.slice a2 Y c2) false 0 .nilIface) 179)):=Br.alloc Nl _;have ab:=Wn r (.cells (yn 1 I (.slice a1 n1 c1) (.slice a2 Y c2) false 0 .nilIface) 179);have q:=aa.out;have o:=aj.out;simp only[List.nil_append,Nat.zero_add]at q o;have q:=qi q (fun g _ hg=>O.out.block g hg);have af:=(Qq q ar.out).below U;have ag:=(Qq o ap.out).below U;have ac:(Value.slice a2 Y c2).ownBlock≠some r.heap.size:=fun e=>by
  rcases o.2 with⟨h, -⟩|⟨g,ay,az,h,h1,X, -⟩
  ·rw[h]at e;cases e
  ·rw[h]at e;simp only[Value.ownBlock,Option.some.injEq]at e;have:=(Ai X).1;omega
 have ad:=qfG bs kz r.heap.size I 0 false (.slice a1 n1 c1) (.slice a2 Y c2) .nilIface _ ab af ag HL.out ax ac;have ah:Below w.heap.size w (r.alloc (.cells (yn 1 I (.slice a1 n1 c1) (.slice a2 Y c2) false 0 .nilIface) 179)):=V.out.trans ((O.out.trans (U.mono J)).mono D);have an:=hid ad;have G:=hid ah;clear ad ah U ab q o af ag ac aa aj V O;go_wp2_with fail
 refine an.out.mono ?_;rintro e w4 ⟨rfl,⟨p,Z,h1,X,h3,h4⟩,h5⟩;have HF:=hid (show w.heap.size≤p∧w4.heap[r.heap.size]? =some (.cells (yn 1 I (.slice a1 n1 c1) (.slice a2 Y c2) false 0 (.iface 277 (.pointer (some ⟨p,0,none⟩)))) 179 (0,0))∧QY true w4 p Z (h0Z true bs) (yv 128 kz)∧(∀g,Z.ownBlock=some g→w.heap.size≤g)∧Below w.heap.size w w4 from⟨by have:=G.out.size;omega,X,h3,fun g hg=>by have:=h4 g hg;have:=G.out.size;omega,G.out.trans (h5.below G.out.size (fun k hk=>by omega))⟩);clear h1 X h3 h4 h5 an G;have av:w.heap.size≤r.heap.size:=by omega
 go_wp2
 go_ret
 obtain⟨h1,X,h3,h4,h5⟩:=HF.out;exact⟨_,p,Z,_,_,rfl,av,h1,X,h3,h4,h5⟩
theorem qfh (bs kz:List Int)(I:Int)(bv kv:Value)(w:World)(hB:Hold w bv bs)(hK:Hold w kv kz)(hl:bs.length=32)(ax:kz.length≤32):
  Calls Tryz.prog 98 #[.int .i64 2,bv,.int .i64 I,kv] w fun e w'=> ∃np p Z au ao,e= .returned (.pointer (some ⟨np,0,none⟩))∧w.heap.size≤np∧w.heap.size≤p∧w'.heap[np]? =some (.cells (yn 2 I au ao false 0 (.iface 287 (.pointer (some ⟨p,0,none⟩)))) 179 (0,0))∧QY false w' p Z (h0Z false bs) (yv 64 kz)∧(∀g,Z.ownBlock=some g→w.heap.size≤g)∧Below w.heap.size w w':=by
 obtain⟨i0,hi,ai,al,ae⟩:=info_parts Qr;obtain⟨b0,aA⟩:=Ex w.heap.size;have D:=hB.src;have J:=hK.src;rw[hl]at D;have aw:=hid D;have aq:=hid J;have ar:=hid hB.1;have ap:=hid hK.1;have HL:=hid hl;clear D J hB hK hl;go_enter Tryz.func98,Tryz.ntmps98
 go_upto_region 2 with(first|((with_reducible show wpList _ _ _ (Oper.mk (some 13) _ _ _ _ _::_) _ _);refine qT rfl _ _ _ rfl w w.heap.size rfl Br 5 i0 (.int .u8 0) 1 Tryz.underlying24 hi ai al ae rfl _ 0 [] rfl (Wo _ _ _ _) bv 32 _ rfl aw.out (by unfold maxLen;omega) (by omega) ?_;intro v1 w1 q am;have aa:=hid q;have V:=hid am;clear q am)|((with_reducible show wpList _ _ _ (Oper.mk (some 15) _ _ _ _ _::_) _ _);refine qT rfl _ _ _ rfl w1 w1.heap.size rfl Br 5 i0 (.int .u8 0) 1 Tryz.underlying24 hi ai al ae rfl _ 0 [] rfl (Wo _ _ _ _) kv kz.length _ rfl (aq.out.below V.out) (by unfold maxLen;omega) (by omega) ?_;intro v2 r o ak;obtain⟨a1,n1,c1,rfl⟩:=qs aa.out;obtain⟨a2,Y,c2,rfl⟩:=qs o;have aj:=hid o;have O:=hid ak;clear o ak))
 have D:=V.out.size;have J:=O.out.size;have U:Below r.heap.size r (r.alloc (.cells (yn 2 I (.slice a1 n1 c1) (.slice a2 Y c2) false 0 .nilIface) 179)):=Br.alloc Nl _;have ab:=Wn r (.cells (yn 2 I (.slice a1 n1 c1) (.slice a2 Y c2) false 0 .nilIface) 179);have q:=aa.out;have o:=aj.out;simp only[List.nil_append,Nat.zero_add]at q o;have q:=qi q (fun g _ hg=>O.out.block g hg);have af:=(Qq q ar.out).below U;have ag:=(Qq o ap.out).below U;have ac:(Value.slice a2 Y c2).ownBlock≠some r.heap.size:=fun e=>by
  rcases o.2 with⟨h, -⟩|⟨g,ay,az,h,h1,X, -⟩
  ·rw[h]at e;cases e
  ·rw[h]at e;simp only[Value.ownBlock,Option.some.injEq]at e;have:=(Ai X).1;omega
 have ad:=qev bs kz r.heap.size I 0 false (.slice a1 n1 c1) (.slice a2 Y c2) .nilIface _ ab af ag HL.out ax ac;have ah:Below w.heap.size w (r.alloc (.cells (yn 2 I (.slice a1 n1 c1) (.slice a2 Y c2) false 0 .nilIface) 179)):=V.out.trans ((O.out.trans (U.mono J)).mono D);have an:=hid ad;have G:=hid ah;clear ad ah U ab q o af ag ac aa aj V O;go_wp2_with fail
 refine an.out.mono ?_;rintro e w4 ⟨rfl,⟨p,Z,h1,X,h3,h4⟩,h5⟩;have HF:=hid (show w.heap.size≤p∧w4.heap[r.heap.size]? =some (.cells (yn 2 I (.slice a1 n1 c1) (.slice a2 Y c2) false 0 (.iface 287 (.pointer (some ⟨p,0,none⟩)))) 179 (0,0))∧QY false w4 p Z (h0Z false bs) (yv 64 kz)∧(∀g,Z.ownBlock=some g→w.heap.size≤g)∧Below w.heap.size w w4 from⟨by have:=G.out.size;omega,X,h3,fun g hg=>by have:=h4 g hg;have:=G.out.size;omega,G.out.trans (h5.below G.out.size (fun k hk=>by omega))⟩);clear h1 X h3 h4 h5 an G;have av:w.heap.size≤r.heap.size:=by omega
 go_wp2
 go_ret
 obtain⟨h1,X,h3,h4,h5⟩:=HF.out;exact⟨_,p,Z,_,_,rfl,av,h1,X,h3,h4,h5⟩
def yW (k:Int)(bv kv:Value)(la:Bool)(o:Int)(dv:Value):Array Value:= #[.int .i64 k,bv,kv,.bool la,.int .i64 o,dv]
def YQ (bs kz:List Int):Bool:=decide (kz.length≠0∧(kz.length:Int)≠qr bs 1)
theorem qac (q o:List Int):YQ q o=(((o.length:Int) != 0)&&((o.length:Int) != qr q 1)):=by
 unfold YQ;rw[Bool.eq_iff_iff];simp only[decide_eq_true_eq,Bool.and_eq_true,bne_iff_ne,ne_eq];omega
theorem qdk {big:Bool}{o q:List Int}(h:okD big false o)(r:YQ o q=false):q.length≤mB big:=by
 unfold YQ at r;have G:=of_decide_eq_false r;have D:0≤qr o 1∧qr o 1≤(mB big:Nat):=h.2.2.2.2.1;omega
def Ja (big:Bool)(bs kz:List Int)(la:Bool)(o:Int)(ds:List Int):List Int:=(zA big (h0Z big bs) (yv (bB big) kz++ds) la).take o.toNat
def qbW (big:Bool)(bs kz:List Int)(la:Bool)(o:Int)(ds:List Int)(w:World)(e:Ending)(w':World):Prop:=
 (∃v,e= .returned (.tuple #[v,.int .i64 0])∧Fresh w.heap.size w' v (Ja big bs kz la o ds))∧Below w.heap.size w w'
theorem qfW {big:Bool}{w w':World}{p q:Nat}{J:Value}{D r:List Int}{c:Array Value}{T:TypeId}{fr:Nat×Nat}(h:QY big w p J D r)(G:But q w w')(I:w.heap[q]? =some (.cells c T fr))(V:T≠283)(O:T≠291)(U:T≠5):QY big w' p J D r:=by
 refine⟨?_,Yk h.2 G I U⟩;rw[G.block p (Ai h.1).1 ?_];exact h.1;rintro rfl
 have o:=h.1;rw[I]at o;simp only[Option.some.injEq,Obj.cells.injEq]at o
 cases big
 ·exact O o.2.1
 ·exact V o.2.1
theorem qaF {big:Bool}{w:World}{p q:Nat}{o:Value}{G r:List Int}{c:Array Value}{T:TypeId}{fr:Nat×Nat}(h:QY big w p o G r)(D:w.heap[q]? =some (.cells c T fr))(I:T≠5):o.ownBlock≠some q:=fun e=>qdb h.2 D I e.symm
theorem qgN (J G ds:List Int)(la:Bool)(o:Int)(Y kv V:Value)(w:World)(hB:Hold w Y J)(hK:Hold w kv G)(hD:Hold w V ds)(bb:(ds.length:Int)≤140737488355200)(aU:okD true false J)(ap:YQ J G=false)(ho:1≤o∧o≤64):
  Calls Tryz.prog 60 #[.agg (yW 1 Y kv la o V)] w fun e w'=>qbW true J G la o ds w e w':=by
 obtain⟨r,U⟩:=Ex w.heap.size;obtain⟨ka,kc,rfl,bk,bj⟩:=hK.slice;have aq:Below r w (w.alloc (.cells #[.int .i64 1,Y,.slice ka G.length kc,.bool la,.int .i64 o,V] 73)):=by rw[←U];exact Br.alloc Nl _
 have ag:=Wn w (.cells #[.int .i64 1,Y,.slice ka G.length kc,.bool la,.int .i64 o,V] 73);rw[U]at ag;have ae:=hB.below (U▸aq);have HB:=hid hB;have HK:=hid hK;have HD:=hid hD;have a3:=hid bb;have ak:=hid aU;have aR:=hid ap;have HO:=hid ho;clear hB hK hD bb bk bj aU ap ho;show Calls _ _ #[.agg #[.int .i64 1,Y,.slice ka G.length kc,.bool la,.int .i64 o,V]] _ _
 go_enter Tryz.func60,Tryz.ntmps60
 go_wp2_with fail
 generalize w.alloc (.cells #[.int .i64 1,Y,.slice ka G.length kc,.bool la,.int .i64 o,V] 73)=wA at*;refine(qcH true J Y wA ae.holds8 ae.1 (fun a n c e=>by obtain⟨a',c',e',h1,h2⟩:=ae.slice;rw[e']at e;simp only[Value.slice.injEq]at e;obtain⟨-,rfl,rfl⟩:=e;exact⟨h1,h2⟩) ak.out).mono ?_;rintro e w1 ⟨⟨fo,dp,lf,aN,nd,aA,sa,pe,rfl,bn,br⟩,ai⟩;obtain⟨ky,ao⟩:=Ex (qr J 1);obtain⟨dg,aV⟩:=Ex (qr J 0);rw[ao,aV];unfold parV;have aW:=qg ag ai;have bt:=ai.size;have bf:r<wA.heap.size:=(Ai ag).1;have aJ:Below r w w1:=aq.trans (ai.mono (by omega));have aS:=hid aW;have aG:=hid aJ;clear aW aJ ai aq ag ae;go_upto_if 24 with((with_reducible show wpList _ _ _ (Oper.mk none (Op.store 171 _ _) _ _ _ _::_) _ _);refine wpList_store_row rfl 171 _ _ rfl w1.heap.size #[.int .i64 dg,.int .i64 ky,.int .i64 fo,.int .i64 dp,.int .u32 lf,.int .u64 aN,.int .u32 0,.int .i64 nd,.int .i64 aA,sa,pe] rfl rfl 171 _ (Wn _ _) (by kernel_rfl) rfl (by simp only[List.all_toArray,List.all_cons,List.all_nil,bn,br];rfl) ?_)
 refine qn ?_;intro W hW;obtain⟨p4,an⟩:=Ex w1.heap.size;have ad:W.heap[p4]? =some (.cells #[.int .i64 dg,.int .i64 ky,.int .i64 fo,.int .i64 dp,.int .u32 lf,.int .u64 aN,.int .u32 0,.int .i64 nd,.int .i64 aA,sa,pe] 171 (0,0)):=by rw[hW,←an];exact setRow_heap _ _ _ _ _ _ (Wn _ _)
 have aa:W.heap[r]? =some (.cells #[.int .i64 1,Y,.slice ka G.length kc,.bool la,.int .i64 o,V] 73 (0,0)):=by rw[hW];exact(setRow_other (w1.alloc _) _ _ _ (by omega)).trans ((Bh _ _ _ (by omega)).trans aS.out)
 have au:Below r w W:=by rw[hW];exact below_setRow (aG.out.alloc (by omega) _) (by omega) _
 rw[an];have bQ:r<p4:=by omega
 clear hW an aS aG bt bf;have bJ:p4<W.heap.size:=(Ai ad).1;have bx:=HB.out.below (U▸au);have aK:=hid aa;have ah:=hid au;have bM:W.cell? ⟨p4,0,none⟩=some (.int .i64 dg):=qd ad 0;have bK:W.cell? ⟨p4,1,none⟩=some (.int .i64 ky):=qd ad 1;have bA:W.cell? ⟨r,0,none⟩=some (.int .i64 1):=qd aa 0;have bm:W.cell? ⟨r,1,none⟩=some Y:=qd aa 1;have bu:W.cell? ⟨r,2,none⟩=some (.slice ka G.length kc):=qd aa 2;have be:r<W.heap.size:=(Ai aa).1;obtain⟨q0,a4⟩: ∃q,((G.length:Int) != 0)=q:=⟨_,rfl⟩;obtain⟨q1,aQ⟩: ∃q,((G.length:Int) != ky)=q:=⟨_,rfl⟩;have aF:(q0&&q1)=false:=by rw[←a4,←aQ,←ao];exact(qac J G).symm.trans aR.out
 have bL:G.length≤64:=qdk ak.out aR.out;clear ad aa au ao aV bx;go_upto_region 8 with(fail)
 go_cut [46] from 7 (fun u W'=>u= .bool false∧W=W')
 case first=>
  cases q0<;>cases q1<;>first|(exfalso;cases aF;done)|skip
  all_goals
   go_wp2
   go_meet
   case rel=>exact⟨rfl,by trivial⟩
 case rest=>
  clear a4 aQ bK aF;obtain⟨rfl,rfl⟩:=hcut;have a7:=qgw J G dg Y (.slice ka G.length kc) W (HB.out.below (U▸ah.out)) (HK.out.below (U▸ah.out)) ak.out.1 bL;have bc:=hid a7;clear a7;go_wp2_with fail
  refine bc.out.mono ?_;rintro e O ⟨I,p,hv,aY,aI,rfl,m1,m2,m3,m4,m5,m6⟩;have ax:=qg aK.out m6;have aZ:Below r w O:=ah.out.trans (m6.mono (by omega));have bD:=m6.size;have bI:O.cell? ⟨r,3,none⟩=some (.bool la):=qd ax 3;have bG:O.cell? ⟨I,4,none⟩=some (.bool false):=qd m3 4;have bw:=frozen_of_row O I 4 _ _ m3;have af:r<O.heap.size:=by omega
  have bi:I<O.heap.size:=(Ai m3).1;have bH:r<I∧r<p:=by omega
  obtain⟨bP,bN⟩:=bH;have ab:But I O (O.setCell ⟨I,4,none⟩ (.bool la)):=(But.refl I O).set 4 _;have aH:=jF (b:=la) m3;have aT:=qfW m4 ab m3 (by decide) (by decide) (by decide);have aC:=(ab.block r af (by omega)).trans ax;have bd:Below r w (O.setCell ⟨I,4,none⟩ (.bool la)):=aZ.trans (ab.below (by omega) (by omega));have bh:p≠I:=fun e=>by have h1:=m4.1;rw[e,m3]at h1;simp only[cond,Option.some.injEq,Obj.cells.injEq]at h1;exact absurd h1.2.1 (by decide)
  have aX: ∀g,hv.ownBlock=some g→r<g:=fun g hg=>by have:=m5 g hg;omega
  have a9:=hid aH;have aw:=hid aT;have aM:=hid aC;have ay:=hid bd;have am:=hid aX;have aO:(O.setCell ⟨I,4,none⟩ (.bool la)).heap.size=O.heap.size:=by simp[World.setCell]
  rw[←aO]at bi af;clear ax aZ m1 m2 m3 m4 m5 aX m6 ab aH aT aC bd bD aO aK ah bc bA bm bu be bM bJ;go_upto_region 12 with(fail)
  generalize O.setCell ⟨I,4,none⟩ (.bool la)=W4 at*;clear bI bG bw O W;refine yh (fun f W=>W.heap[I]? =some (.cells (yn 1 dg aY aI la 0 (.iface 277 (.pointer (some ⟨p,0,none⟩)))) 179 (0,0))∧W.heap[r]? =some (.cells #[.int .i64 1,Y,.slice ka G.length kc,.bool la,.int .i64 o,V] 73 (0,0))∧(f=false→Below W4.heap.size W4 W)∧(f=true→Spare (zG p hv) W4 W∧ ∃ac,QY true W p ac (h0Z true J) (yv 128 G++ds))) 6 [.v 61 (.pointer (some ⟨I,0,none⟩)),.v 62 (.pointer (some ⟨I,0,none⟩)),.v 63 (.pointer (some ⟨I,6,none⟩)),.v 64 (.iface 277 (.pointer (some ⟨p,0,none⟩))),.v 65 (.pointer (some ⟨r,5,none⟩)),.v 66 V,.p 67 (fun _ _=>True)] (by exact⟨kW,trivial⟩) ⟨a9.out,aM.out,fun _=>Br.drew,fun h=>(by cases h)⟩ (fun f W W' h hb=>⟨qg h.1 hb,qg h.2.1 hb,fun e=>(h.2.2.1 e).trans (hb.mono (h.2.2.1 e).size),fun e=>by obtain⟨h1,ac,h2⟩:=h.2.2.2 e;exact⟨h1.trans (Spare.of_below _ hb) (fun _ _ h=>h),ac,yN h2 hb⟩⟩) ?_ ?_ ?_
  ·repeat' (with_reducible first|exact qz|refine qx ?_ ?_)
   all_goals try
    refine .inr ?_;intro A x W f hA X hf Z D K hK;have a6:=hA.2 6 (by decide);conv at a6=>rhs;whnf
    have a1:=hA.2 1 (by decide);conv at a1=>rhs;whnf
    simp only[QW,Q8]at D;clear Z hA;first
    | go_simp
      exact hK _ _ BR rfl
    | have y0:W.cell? ⟨I,6,none⟩=some (.iface 277 (.pointer (some ⟨p,0,none⟩))):=qd X.1 6
      have y1:W.cell? ⟨r,5,none⟩=some V:=qd X.2.1 5;go_simp
      exact hK _ _ BR rfl
   any_goals exact .inl rfl
  ·intro A x W hA X Z K hK;have bS:=gw hA Z 3 64;have bT:=gw hA Z 5 66;clear Z hA;have hB:=X.2.2.1 rfl;go_simp
   refine Yr (f:=260) (by kernel_rfl) ?_;go_simp
   have bq:Hold W V ds:=HD.out.below (U▸ay.out.trans (hB.mono (by omega)));refine(qa4 (h0Z true J) (yv 128 G) ds (QX true J) (Y7 HK.out.1) p hv V W (yN aw.out hB) bq (fun aE b hb=>⟨fun e=>by have:=YD HD.out aE hb;omega,fun e=>by have:=YD HD.out aE hb;have:=am.out b e;omega⟩) (by have:=Y6 (n:=128) (key:=G) (by omega);have:=a3.out;omega)).mono ?_;rintro e w' ⟨rfl,⟨ac,bo, -⟩,av⟩
   refine hK _ _ (fun h=>by cases h) ⟨(av.block I (Ai X.1).1 ⟨fun e=>bh e.symm,qaF (yN aw.out hB) X.1 (by decide)⟩).trans X.1,(av.block r (Ai X.2.1).1 ⟨by omega,fun e=>by have:=am.out r e;omega⟩).trans X.2.1,fun h=>(by cases h),fun _=>⟨(Spare.of_below _ hB).trans av (fun _ _ h=>h),ac,bo⟩⟩ ⟨.inr (fun _ h=>h),.inr (fun _ h=>h),.inr (fun _ h=>h),.inr (fun _ h=>h),.inr (fun _ h=>h),.inr (fun _ h=>h),.inl rfl,trivial⟩ trivial
  intro x W X bg;obtain⟨aB, -⟩:=bg;change ((fun _ _=>True)) (x 67) W at aB
  simp only[QF,Act.put,Ls];obtain⟨az,aj, -,h9⟩:=X;obtain⟨aD,bz,a5⟩:=h9 rfl;have a8:Below r w W:=ay.out.trans (aD.below (by omega) (fun k hk=>⟨by omega,fun e=>by have:=am.out k e;omega⟩));have bR:W.cell? ⟨r,4,none⟩=some (.int .i64 o):=qd aj 4;have bO:r<W.heap.size:=(Ai aj).1;have bE:=hid az;have bp:=hid a5;have bl:=hid a8;clear az aj h9 aD a5 a8 aB a9 aw aM ay;go_wp2_with fail
  have ho:=HO.out;obtain⟨m,hm⟩: ∃m:Nat,o=(m:Int):=⟨o.toNat,by omega⟩;have ar:1≤m∧m≤64:=by omega
  clear ho HO;subst hm;have al:(((yv 128 G)++ds).length:Int)≤281474976710656:=by
   have:=Y6 (n:=128) (key:=G) (by omega)
   have:=a3.out
   rw[List.length_append];omega
  have aP: ∀z∈yv 128 G++ds,0≤z∧z≤255:=fun z hz=>by
   rcases List.mem_append.1 hz with hz|hz
   ·exact Y7 HK.out.1 z hz
   ·exact HD.out.1 z hz
  refine(qde (h0Z true J) (yv 128 G++ds) (QX true J) aP I p m dg 0 la aY aI bz _ bE.out bp.out al ar.1 ar.2).mono ?_;rintro e w5 ⟨⟨v5,rfl,ba⟩,aL⟩;have bF:=hid (show Fresh w.heap.size w5 v5 (Ja true J G la (m:Nat) ds) from by have h:=ba.le (b':=w.heap.size) (by omega);unfold Ja;exact h);have bC:=hid (show Below r w w5 from bl.out.trans (aL.mono (by omega)));clear ba aL al aP ar;go_wp2
  go_ret2
  exact⟨⟨_,rfl,bF.out⟩,by rw[U];exact bC.out⟩
theorem qfB (J G ds:List Int)(la:Bool)(o:Int)(Y kv V:Value)(w:World)(hB:Hold w Y J)(hK:Hold w kv G)(hD:Hold w V ds)(bb:(ds.length:Int)≤140737488355200)(aU:okD false false J)(ap:YQ J G=false)(ho:1≤o∧o≤32):
  Calls Tryz.prog 60 #[.agg (yW 2 Y kv la o V)] w fun e w'=>qbW false J G la o ds w e w':=by
 obtain⟨r,U⟩:=Ex w.heap.size;obtain⟨ka,kc,rfl,bk,bj⟩:=hK.slice;have aq:Below r w (w.alloc (.cells #[.int .i64 2,Y,.slice ka G.length kc,.bool la,.int .i64 o,V] 73)):=by rw[←U];exact Br.alloc Nl _
 have ag:=Wn w (.cells #[.int .i64 2,Y,.slice ka G.length kc,.bool la,.int .i64 o,V] 73);rw[U]at ag;have ae:=hB.below (U▸aq);have HB:=hid hB;have HK:=hid hK;have HD:=hid hD;have a3:=hid bb;have ak:=hid aU;have aR:=hid ap;have HO:=hid ho;clear hB hK hD bb bk bj aU ap ho;show Calls _ _ #[.agg #[.int .i64 2,Y,.slice ka G.length kc,.bool la,.int .i64 o,V]] _ _
 go_enter Tryz.func60,Tryz.ntmps60
 go_wp2_with fail
 generalize w.alloc (.cells #[.int .i64 2,Y,.slice ka G.length kc,.bool la,.int .i64 o,V] 73)=wA at*;refine(qcH false J Y wA ae.holds8 ae.1 (fun a n c e=>by obtain⟨a',c',e',h1,h2⟩:=ae.slice;rw[e']at e;simp only[Value.slice.injEq]at e;obtain⟨-,rfl,rfl⟩:=e;exact⟨h1,h2⟩) ak.out).mono ?_;rintro e w1 ⟨⟨fo,dp,lf,aN,nd,aA,sa,pe,rfl,bn,br⟩,ai⟩;obtain⟨ky,ao⟩:=Ex (qr J 1);obtain⟨dg,aV⟩:=Ex (qr J 0);rw[ao,aV];unfold parV;have aW:=qg ag ai;have bt:=ai.size;have bf:r<wA.heap.size:=(Ai ag).1;have aJ:Below r w w1:=aq.trans (ai.mono (by omega));have aS:=hid aW;have aG:=hid aJ;clear aW aJ ai aq ag ae;go_upto_if 24 with((with_reducible show wpList _ _ _ (Oper.mk none (Op.store 171 _ _) _ _ _ _::_) _ _);refine wpList_store_row rfl 171 _ _ rfl w1.heap.size #[.int .i64 dg,.int .i64 ky,.int .i64 fo,.int .i64 dp,.int .u32 lf,.int .u64 aN,.int .u32 0,.int .i64 nd,.int .i64 aA,sa,pe] rfl rfl 171 _ (Wn _ _) (by kernel_rfl) rfl (by simp only[List.all_toArray,List.all_cons,List.all_nil,bn,br];rfl) ?_)
 refine qn ?_;intro W hW;obtain⟨p4,an⟩:=Ex w1.heap.size;have ad:W.heap[p4]? =some (.cells #[.int .i64 dg,.int .i64 ky,.int .i64 fo,.int .i64 dp,.int .u32 lf,.int .u64 aN,.int .u32 0,.int .i64 nd,.int .i64 aA,sa,pe] 171 (0,0)):=by rw[hW,←an];exact setRow_heap _ _ _ _ _ _ (Wn _ _)
 have aa:W.heap[r]? =some (.cells #[.int .i64 2,Y,.slice ka G.length kc,.bool la,.int .i64 o,V] 73 (0,0)):=by rw[hW];exact(setRow_other (w1.alloc _) _ _ _ (by omega)).trans ((Bh _ _ _ (by omega)).trans aS.out)
 have au:Below r w W:=by rw[hW];exact below_setRow (aG.out.alloc (by omega) _) (by omega) _
 rw[an];have bQ:r<p4:=by omega
 clear hW an aS aG bt bf;have bJ:p4<W.heap.size:=(Ai ad).1;have bx:=HB.out.below (U▸au);have aK:=hid aa;have ah:=hid au;have bM:W.cell? ⟨p4,0,none⟩=some (.int .i64 dg):=qd ad 0;have bK:W.cell? ⟨p4,1,none⟩=some (.int .i64 ky):=qd ad 1;have bA:W.cell? ⟨r,0,none⟩=some (.int .i64 2):=qd aa 0;have bm:W.cell? ⟨r,1,none⟩=some Y:=qd aa 1;have bu:W.cell? ⟨r,2,none⟩=some (.slice ka G.length kc):=qd aa 2;have be:r<W.heap.size:=(Ai aa).1;obtain⟨q0,a4⟩: ∃q,((G.length:Int) != 0)=q:=⟨_,rfl⟩;obtain⟨q1,aQ⟩: ∃q,((G.length:Int) != ky)=q:=⟨_,rfl⟩;have aF:(q0&&q1)=false:=by rw[←a4,←aQ,←ao];exact(qac J G).symm.trans aR.out
 have bL:G.length≤32:=qdk ak.out aR.out;clear ad aa au ao aV bx;go_upto_region 8 with(fail)
 go_cut [46] from 7 (fun u W'=>u= .bool false∧W=W')
 case first=>
  cases q0<;>cases q1<;>first|(exfalso;cases aF;done)|skip
  all_goals
   go_wp2
   go_meet
   case rel=>exact⟨rfl,by trivial⟩
 case rest=>
  clear a4 aQ bK aF;obtain⟨rfl,rfl⟩:=hcut;have a7:=qfh J G dg Y (.slice ka G.length kc) W (HB.out.below (U▸ah.out)) (HK.out.below (U▸ah.out)) ak.out.1 bL;have bc:=hid a7;clear a7;go_wp2_with fail
  refine bc.out.mono ?_;rintro e O ⟨I,p,hv,aY,aI,rfl,m1,m2,m3,m4,m5,m6⟩;have ax:=qg aK.out m6;have aZ:Below r w O:=ah.out.trans (m6.mono (by omega));have bD:=m6.size;have bI:O.cell? ⟨r,3,none⟩=some (.bool la):=qd ax 3;have bG:O.cell? ⟨I,4,none⟩=some (.bool false):=qd m3 4;have bw:=frozen_of_row O I 4 _ _ m3;have af:r<O.heap.size:=by omega
  have bi:I<O.heap.size:=(Ai m3).1;have bH:r<I∧r<p:=by omega
  obtain⟨bP,bN⟩:=bH;have ab:But I O (O.setCell ⟨I,4,none⟩ (.bool la)):=(But.refl I O).set 4 _;have aH:=jF (b:=la) m3;have aT:=qfW m4 ab m3 (by decide) (by decide) (by decide);have aC:=(ab.block r af (by omega)).trans ax;have bd:Below r w (O.setCell ⟨I,4,none⟩ (.bool la)):=aZ.trans (ab.below (by omega) (by omega));have bh:p≠I:=fun e=>by have h1:=m4.1;rw[e,m3]at h1;simp only[cond,Option.some.injEq,Obj.cells.injEq]at h1;exact absurd h1.2.1 (by decide)
  have aX: ∀g,hv.ownBlock=some g→r<g:=fun g hg=>by have:=m5 g hg;omega
  have a9:=hid aH;have aw:=hid aT;have aM:=hid aC;have ay:=hid bd;have am:=hid aX;have aO:(O.setCell ⟨I,4,none⟩ (.bool la)).heap.size=O.heap.size:=by simp[World.setCell]
  rw[←aO]at bi af;clear ax aZ m1 m2 m3 m4 m5 aX m6 ab aH aT aC bd bD aO aK ah bc bA bm bu be bM bJ;go_upto_region 12 with(fail)
  generalize O.setCell ⟨I,4,none⟩ (.bool la)=W4 at*;clear bI bG bw O W;refine yh (fun f W=>W.heap[I]? =some (.cells (yn 2 dg aY aI la 0 (.iface 287 (.pointer (some ⟨p,0,none⟩)))) 179 (0,0))∧W.heap[r]? =some (.cells #[.int .i64 2,Y,.slice ka G.length kc,.bool la,.int .i64 o,V] 73 (0,0))∧(f=false→Below W4.heap.size W4 W)∧(f=true→Spare (zG p hv) W4 W∧ ∃ac,QY false W p ac (h0Z false J) (yv 64 G++ds))) 6 [.v 61 (.pointer (some ⟨I,0,none⟩)),.v 62 (.pointer (some ⟨I,0,none⟩)),.v 63 (.pointer (some ⟨I,6,none⟩)),.v 64 (.iface 287 (.pointer (some ⟨p,0,none⟩))),.v 65 (.pointer (some ⟨r,5,none⟩)),.v 66 V,.p 67 (fun _ _=>True)] (by exact⟨kW,trivial⟩) ⟨a9.out,aM.out,fun _=>Br.drew,fun h=>(by cases h)⟩ (fun f W W' h hb=>⟨qg h.1 hb,qg h.2.1 hb,fun e=>(h.2.2.1 e).trans (hb.mono (h.2.2.1 e).size),fun e=>by obtain⟨h1,ac,h2⟩:=h.2.2.2 e;exact⟨h1.trans (Spare.of_below _ hb) (fun _ _ h=>h),ac,yN h2 hb⟩⟩) ?_ ?_ ?_
  ·repeat' (with_reducible first|exact qz|refine qx ?_ ?_)
   all_goals try
    refine .inr ?_;intro A x W f hA X hf Z D K hK;have a6:=hA.2 6 (by decide);conv at a6=>rhs;whnf
    have a1:=hA.2 1 (by decide);conv at a1=>rhs;whnf
    simp only[QW,Q8]at D;clear Z hA;first
    | go_simp
      exact hK _ _ BR rfl
    | have y0:W.cell? ⟨I,6,none⟩=some (.iface 287 (.pointer (some ⟨p,0,none⟩))):=qd X.1 6
      have y1:W.cell? ⟨r,5,none⟩=some V:=qd X.2.1 5;go_simp
      exact hK _ _ BR rfl
   any_goals exact .inl rfl
  ·intro A x W hA X Z K hK;have bS:=gw hA Z 3 64;have bT:=gw hA Z 5 66;clear Z hA;have hB:=X.2.2.1 rfl;go_simp
   refine Yr (f:=266) (by kernel_rfl) ?_;go_simp
   have bq:Hold W V ds:=HD.out.below (U▸ay.out.trans (hB.mono (by omega)));refine(qaq (h0Z false J) (yv 64 G) ds (QX false J) (Y7 HK.out.1) p hv V W (yN aw.out hB) bq (fun aE b hb=>⟨fun e=>by have:=YD HD.out aE hb;omega,fun e=>by have:=YD HD.out aE hb;have:=am.out b e;omega⟩) (by have:=Y6 (n:=64) (key:=G) (by omega);have:=a3.out;omega)).mono ?_;rintro e w' ⟨rfl,⟨ac,bo, -⟩,av⟩
   refine hK _ _ (fun h=>by cases h) ⟨(av.block I (Ai X.1).1 ⟨fun e=>bh e.symm,qaF (yN aw.out hB) X.1 (by decide)⟩).trans X.1,(av.block r (Ai X.2.1).1 ⟨by omega,fun e=>by have:=am.out r e;omega⟩).trans X.2.1,fun h=>(by cases h),fun _=>⟨(Spare.of_below _ hB).trans av (fun _ _ h=>h),ac,bo⟩⟩ ⟨.inr (fun _ h=>h),.inr (fun _ h=>h),.inr (fun _ h=>h),.inr (fun _ h=>h),.inr (fun _ h=>h),.inr (fun _ h=>h),.inl rfl,trivial⟩ trivial
  intro x W X bg;obtain⟨aB, -⟩:=bg;change ((fun _ _=>True)) (x 67) W at aB
  simp only[QF,Act.put,Ls];obtain⟨az,aj, -,h9⟩:=X;obtain⟨aD,bz,a5⟩:=h9 rfl;have a8:Below r w W:=ay.out.trans (aD.below (by omega) (fun k hk=>⟨by omega,fun e=>by have:=am.out k e;omega⟩));have bR:W.cell? ⟨r,4,none⟩=some (.int .i64 o):=qd aj 4;have bO:r<W.heap.size:=(Ai aj).1;have bE:=hid az;have bp:=hid a5;have bl:=hid a8;clear az aj h9 aD a5 a8 aB a9 aw aM ay;go_wp2_with fail
  have ho:=HO.out;obtain⟨m,hm⟩: ∃m:Nat,o=(m:Int):=⟨o.toNat,by omega⟩;have ar:1≤m∧m≤32:=by omega
  clear ho HO;subst hm;have al:(((yv 64 G)++ds).length:Int)≤281474976710656:=by
   have:=Y6 (n:=64) (key:=G) (by omega)
   have:=a3.out
   rw[List.length_append];omega
  have aP: ∀z∈yv 64 G++ds,0≤z∧z≤255:=fun z hz=>by
   rcases List.mem_append.1 hz with hz|hz
   ·exact Y7 HK.out.1 z hz
   ·exact HD.out.1 z hz
  refine(qcc (h0Z false J) (yv 64 G++ds) (QX false J) aP I p m dg 0 la aY aI bz _ bE.out bp.out al ar.1 ar.2).mono ?_;rintro e w5 ⟨⟨v5,rfl,ba⟩,aL⟩;have bF:=hid (show Fresh w.heap.size w5 v5 (Ja false J G la (m:Nat) ds) from by have h:=ba.le (b':=w.heap.size) (by omega);unfold Ja;exact h);have bC:=hid (show Below r w w5 from bl.out.trans (aL.mono (by omega)));clear ba aL al aP ar;go_wp2
  go_ret2
  exact⟨⟨_,rfl,bF.out⟩,by rw[U];exact bC.out⟩
def DecIs (big:Bool)(bs:List Int)(base:Nat)(w':World)(cs:Array Value):Prop:=
 cs.size=11∧cs.all (·.oneCell')=true∧ ∃sa pe,Value.agg cs=parN (Yu big false bs) sa pe∧w'.ownsRow base 5 1 sa (YM big bs).length ((YM big bs).map qt)∧w'.ownsRow base 5 1 pe (Y2 big bs).length ((Y2 big bs).map qt)
def qcN (big:Bool)(bs:List Int)(w:World)(e:Ending)(w':World):Prop:=
 (∃cs,e= .returned (.tuple #[.agg cs,.int .i64 0])∧DecIs big bs w.heap.size w' cs)∧Below w.heap.size w w'
theorem qhP {big:Bool}{o:List Int}{base:Nat}{w':World}{G q:Value}(D:w'.ownsRow base 5 1 G (YM big o).length ((YM big o).map qt))(r:w'.ownsRow base 5 1 q (Y2 big o).length ((Y2 big o).map qt)):
  ∃cs,parN (Yu big false o) G q= .agg cs∧DecIs big o base w' cs:=by
 obtain⟨a1,J,c1,rfl⟩:=qs D;obtain⟨a2,I,c2,rfl⟩:=qs r;refine⟨_,rfl,rfl,?_,_,_,rfl,D,r⟩;simp[Value.oneCell']
theorem DecIs.mono {big:Bool}{q:List Int}{base b':Nat}{w w':World}{cs:Array Value}(h:DecIs big q base w cs)(r:b'≤base)(o: ∀g,base≤g→g<w.heap.size→w'.heap[g]? =w.heap[g]?):DecIs big q b' w' cs:=by
 obtain⟨J,D,O,G,e,U,I⟩:=h;exact⟨J,D,O,G,e,ownsRow_le (qi U o) r,ownsRow_le (qi I o) r⟩
theorem Qd {W:World}{base n b:Nat}{v:Value}{xs:List Value}{c cs:Array Value}{T:TypeId}(h:W.ownsRow base 5 1 v n xs)(J:W.heap[b]? =some (.cells c T (0,0)))(D:T≠5):(W.setRow b cs).ownsRow base 5 1 v n xs:=by
 refine⟨h.1,?_⟩;rcases h.2 with o|⟨g,q,r,e,I,o,G⟩
 ·exact .inl o
 ·refine .inr ⟨g,q,r,e,I,?_,G⟩;rw[setRow_other _ _ _ _ ?_];exact o;rintro rfl
  rw[J]at o;simp only[Option.some.injEq,Obj.cells.injEq]at o;exact D o.2.1
theorem qgH {big:Bool}{q:List Int}{o b':Nat}{W:World}{cs c ds:Array Value}(h:DecIs big q o W cs)(r:W.heap[o]? =some (.cells c 171 (0,0)))(D:b'≤o):DecIs big q b' (W.setRow o ds) cs:=by
 obtain⟨O,G,U,I,e,V,J⟩:=h;exact⟨O,G,U,I,e,ownsRow_le (Qd V r (by decide)) D,ownsRow_le (Qd J r (by decide)) D⟩
theorem qb7 (big:Bool)(J:List Int)(bv:Value)(w:World)(hB:Hold w bv J)(ac:okD big false J):
  Calls Tryz.prog 120 #[.int .i64 (kB big),bv] w fun e w'=>qcN big J w e w':=by
 obtain⟨q,G⟩:=Ex w.heap.size;have O:Below q w (w.alloc (.cells #[.int .i64 0,.int .i64 0,.int .i64 0,.int .i64 0,.int .u32 0,.int .u64 0,.int .u32 0,.int .i64 0,.int .i64 0,.slice none 0 0,.slice none 0 0] 171)):=by rw[←G];exact Br.alloc Nl _
 have D:=Wn w (.cells #[.int .i64 0,.int .i64 0,.int .i64 0,.int .i64 0,.int .u32 0,.int .u64 0,.int .u32 0,.int .i64 0,.int .i64 0,.slice none 0 0,.slice none 0 0] 171);rw[G]at D;have HB:=hid hB;have ak:=hid ac;clear hB ac;go_enter Tryz.func120,Tryz.ntmps120
 go_wp2_with fail
 generalize w.alloc (.cells #[.int .i64 0,.int .i64 0,.int .i64 0,.int .i64 0,.int .u32 0,.int .u64 0,.int .u32 0,.int .i64 0,.int .i64 0,.slice none 0 0,.slice none 0 0] 171)=wA at*;refine(qc6 big J bv wA (HB.out.below (G▸O)) ak.out).mono ?_;rintro e w1 ⟨⟨sa,pe,rfl,o1,o2⟩,I⟩;obtain⟨cs,ag,Z⟩:=qhP o1 o2;rw[ag];have ai:q<wA.heap.size:=(Ai D).1;have aj:=I.size;have af:=qg D I;have ab:Below q w w1:=O.trans (I.mono (by omega));have U:=Z.mono (b':=q) (w':=w1) (by omega) (fun _ _ _=>rfl);have aa:=hid af;have ah:=hid ab;have o:=hid U;clear o1 o2 ag I Z af ab O D U;go_upto_region 2 with((with_reducible show wpList _ _ _ (Oper.mk none (Op.store 171 (Operand.tmp 6) _) _ _ _ _::_) _ _);refine wpList_store_row rfl 171 _ _ rfl w1.heap.size cs rfl rfl 171 _ (Wn _ _) (by rw[o.out.1];kernel_rfl) (by rw[o.out.1];rfl) o.out.2.1 ?_)
 refine qn ?_;intro W X;obtain⟨Y,V⟩:=Ex w1.heap.size;have r6:W.heap[Y]? =some (.cells cs 171 (0,0)):=by rw[X,←V];exact setRow_heap _ _ _ _ _ _ (Wn _ _)
 have r0:W.heap[q]? =some (.cells #[.int .i64 0,.int .i64 0,.int .i64 0,.int .i64 0,.int .u32 0,.int .u64 0,.int .u32 0,.int .i64 0,.int .i64 0,.slice none 0 0,.slice none 0 0] 171 (0,0)):=by rw[X];exact(setRow_other (w1.alloc _) _ _ _ (by omega)).trans ((Bh _ _ _ (by omega)).trans aa.out)
 have ae:Below q w W:=by rw[X];exact below_setRow (ah.out.alloc (by omega) _) (by omega) _
 have ad:DecIs big J q W cs:=o.out.mono Nl (fun g hg am=>by rw[X];exact(setRow_other (w1.alloc _) _ _ _ (by omega)).trans (Bh _ _ _ am));rw[V];have an:q<Y:=by omega
 have ao:Y<W.heap.size:=(Ai r6).1;clear X V aa ah o aj ai;have R6:=hid r6;have R0:=hid r0;have al:=hid ae;have r:=hid ad;clear r6 r0 ae ad;go_wp2_with (first|((with_reducible show wpList _ _ _ (Oper.mk (some 22) _ _ _ _ _::_) _ _);refine wpList_load_row rfl 171 _ rfl Y rfl _ _ _ _ R6.out Tryz.underlying171 rfl (by rw[r.out.1];kernel_rfl) ?_)|((with_reducible show wpList _ _ _ (Oper.mk none (Op.store 171 (Operand.tmp 4) _) _ _ _ _::_) _ _);refine wpList_store_row rfl 171 _ _ rfl q cs rfl rfl 171 _ R0.out (by rw[r.out.1];kernel_rfl) (by rw[r.out.1];rfl) r.out.2.1 ?_))
 exact Bp (qA rfl _ _ q 171 _ _ _ rfl (setRow_heap _ _ _ _ _ _ R0.out) Tryz.underlying171 rfl (by rw[r.out.1];kernel_rfl)) rfl (show qcN _ _ _ _ _ from⟨⟨cs,rfl,qgH r.out R0.out (by omega)⟩,by rw[G];exact below_setRow al.out Nl _⟩)
def TreeV.vN (t:TreeV)(row at_:Nat)(f:Nat):Nat:=
 if f=1 then t.d.toNat else if f=2 then t.kl else if f=3 then t.f.toNat else if f=4 then t.p.toNat else if f=5 then t.l.toNat else if f=6 then at_ else if f=8 then row else if f=9 then t.i.toNat else 0
def TreeV.big (t:TreeV):Bool:=decide (t.k=1)
theorem YJ {t:TreeV}(h:t.validE=0):kB t.big=t.k:=by
 have:=(qo h).1
 unfold TreeV.big kB;rcases this with e|e<;>rw[e]<;>rfl
theorem YI {t:TreeV}(h:t.validE=0):((mB t.big:Nat):Int)=zw t.k∧((sB t.big:Nat):Int)=jY t.k:=by
 have:=(qo h).1
 unfold TreeV.big mB sB zw jY;rcases this with e|e<;>rw[e]<;>exact⟨rfl,rfl⟩
theorem js {t:TreeV}(h:t.validE=0)(O:0≤t.l∧t.l≤4294967295){row at_:Nat}(X:row≤255)(Y:at_<281474976710656):ParOk t.big (t.vN row at_):=by
 obtain⟨V,G,J,I,h5,D,U,r,Z,o, -, -⟩:=qo h;obtain⟨q, -⟩:=YI h;refine⟨⟨?_,?_,?_,?_,⟨?_,fun _=>?_⟩,?_,?_⟩,?_,?_,rfl⟩;all_goals simp only[TreeV.vN,if_true,if_false,Nat.reduceEqDiff]
 all_goals omega
def TreeV.blk (t:TreeV)(z1 z2:List Int)(row at_:Nat):List Int:=Q4 t.big (t.vN row at_) z1 z2
theorem TreeV.parN {t:TreeV}(h:t.validE=0)(V:0≤t.l∧t.l≤4294967295)(row at_:Nat)(q o:Value):
  parN (t.vN row at_) q o= .agg #[.int .i64 t.d,.int .i64 (t.kl:Nat),.int .i64 t.f,.int .i64 t.p,.int .u32 t.l,.int .u64 (at_:Nat),.int .u32 0,.int .i64 (row:Nat),.int .i64 t.i,q,o]:=by
 obtain⟨Y,J,U,O,h5,I,X,G,Z,D, -, -⟩:=qo h;have e: ∀z:Int,0≤z→((z.toNat:Nat):Int)=z:=fun z r=>Int.toNat_of_nonneg r
 unfold Go.Proofs.YthjoojnlnlmljaaGreat.parN parV;simp only[TreeV.vN,if_true,if_false,Nat.reduceEqDiff];rw[e t.d (by omega),e t.f (by omega),e t.p (by omega),e t.l (by omega),e t.i (by omega)];rfl
theorem QA {W:World}{B n g:Nat}{v:Value}{xs:List Value}{c:Array Value}{T:TypeId}{fr:Nat×Nat}(h:W.ownsRow B 5 1 v n xs)(U:W.heap[g]? =some (.cells c T fr))(o:Nat)(u:Value)(G:T≠5):(W.setCell ⟨g,o,none⟩ u).ownsRow B 5 1 v n xs:=by
 refine⟨h.1,?_⟩;rcases h.2 with q|⟨I,r,D,e,O,q,J⟩
 ·exact .inl q
 ·refine .inr ⟨I,r,D,e,O,?_,J⟩;rw[heap_setCell_other W _ _ _ ?_];exact q;rintro rfl
  rw[U]at q;simp only[Option.some.injEq,Obj.cells.injEq]at q;exact G q.2.1
def TreeV.outN (t:TreeV)(rt:Bool):Int:=if rt then t.d else t.i
def Za (row:Nat)(kz:List Int):List Int:=if row=0 then kz else []
theorem qdy (t:TreeV)(h:t.validE=0)(hl:0≤t.l∧t.l≤4294967295)(z1 z2 kz:List Int)(row at_:Nat)(hr:row≤255)(ha:at_<281474976710656)(la rt:Bool)(da:Option Addr)(dn dc:Nat)(w:World)
  (h1:Hold w (.slice t.sa t.sl t.sc) z1) (h2:Hold w (.slice t.pa t.pl t.pc) z2) (hk:Hold w (.slice t.ka t.kl t.kc) kz):
  Calls Tryz.prog 61 #[t.val,.int .i64 (row:Nat),.int .u64 (at_:Nat),.bool la,.bool rt,.slice da dn dc] w fun e w'=> ∃bv kv,e= .returned (.agg (yW t.k bv kv la (t.outN rt) (.slice da dn dc)))∧
   w'.ownsRow w.heap.size 5 1 bv (mB t.big) ((t.blk z1 z2 row at_).map qt)∧w'.ownsRow w.heap.size 5 1 kv (Za row kz).length ((Za row kz).map qt)∧Below w.heap.size w w':=by
 obtain⟨o,I⟩:=Ex w.heap.size;have av:z1.length=t.sl:=by obtain⟨a,c,e, -, -⟩:=h1.slice;simp only[Value.slice.injEq]at e;exact e.2.1.symm
 have ap:z2.length=t.pl:=by obtain⟨a,c,e, -, -⟩:=h2.slice;simp only[Value.slice.injEq]at e;exact e.2.1.symm
 have aL:kz.length=t.kl:=by obtain⟨a,c,e, -, -⟩:=hk.slice;simp only[Value.slice.injEq]at e;exact e.2.1.symm
 have aP:=qo h;have a8:=YI h;have bd:kz.length≤64:=by
  have h1:=aP.2.2.2.2.2.2.2.2.2.1;have h2:mB t.big≤64:=by cases t.big<;>decide
  omega
 have aB:=hid (fun(W:World) (hb:Below o w W)=>qgG t.big (t.vN row at_) z1 z2 (.slice t.sa t.sl t.sc) (.slice t.pa t.pl t.pc) W (js h hl hr ha) (h1.below (I▸hb)) (h2.below (I▸hb)) (by omega) (by omega));rw[TreeV.parN h hl,YJ h]at aB;have HK:=hid hk;have bh:=hid aL;have HB:=hid (show t.blk z1 z2 row at_=Q4 t.big (t.vN row at_) z1 z2 from rfl);generalize t.blk z1 z2 row at_=BL at*;obtain⟨k,d,f,p,l,i,ka,kl,kc,sa,sl,sc,pa,pl,pc⟩:=t;unfold TreeV.val;simp only at*
 clear aP a8 h hl h1 h2 hk av ap aL;go_enter Tryz.func61,Tryz.ntmps61
 go_upto_region 1 with(fail)
 have r:((w.alloc (.cells #[.int .i64 k,.int .i64 d,.int .i64 f,.int .i64 p,.int .u32 l,.int .i64 i,.slice ka kl kc,.slice sa sl sc,.slice pa pl pc] 26)).alloc (.cells #[.int .i64 0,.slice none 0 0,.slice none 0 0,.bool false,.int .i64 0,.slice none 0 0] 73)).heap[o]? =some (.cells #[.int .i64 k,.int .i64 d,.int .i64 f,.int .i64 p,.int .u32 l,.int .i64 i,.slice ka kl kc,.slice sa sl sc,.slice pa pl pc] 26 (0,0)):=(Bh _ _ _ (by simp;omega)).trans (qe _ _ I.symm);have ak:((w.alloc (.cells #[.int .i64 k,.int .i64 d,.int .i64 f,.int .i64 p,.int .u32 l,.int .i64 i,.slice ka kl kc,.slice sa sl sc,.slice pa pl pc] 26)).alloc (.cells #[.int .i64 0,.slice none 0 0,.slice none 0 0,.bool false,.int .i64 0,.slice none 0 0] 73)).heap[o+1]? =some (.cells #[.int .i64 0,.slice none 0 0,.slice none 0 0,.bool false,.int .i64 0,.slice none 0 0] 73 (0,0)):=qe _ _ (by simp;omega);have aQ:Below o w ((w.alloc (.cells #[.int .i64 k,.int .i64 d,.int .i64 f,.int .i64 p,.int .u32 l,.int .i64 i,.slice ka kl kc,.slice sa sl sc,.slice pa pl pc] 26)).alloc (.cells #[.int .i64 0,.slice none 0 0,.slice none 0 0,.bool false,.int .i64 0,.slice none 0 0] 73)):=by rw[←I];exact(Br.alloc Nl _).alloc (by simp) _
 have az:((w.alloc (.cells #[.int .i64 k,.int .i64 d,.int .i64 f,.int .i64 p,.int .u32 l,.int .i64 i,.slice ka kl kc,.slice sa sl sc,.slice pa pl pc] 26)).alloc (.cells #[.int .i64 0,.slice none 0 0,.slice none 0 0,.bool false,.int .i64 0,.slice none 0 0] 73)).heap.size=o+2:=by simp;omega
 generalize ((w.alloc (.cells #[.int .i64 k,.int .i64 d,.int .i64 f,.int .i64 p,.int .u32 l,.int .i64 i,.slice ka kl kc,.slice sa sl sc,.slice pa pl pc] 26)).alloc (.cells #[.int .i64 0,.slice none 0 0,.slice none 0 0,.bool false,.int .i64 0,.slice none 0 0] 73))=wA at*;have c0:wA.cell? ⟨o,0,none⟩=some (.int .i64 k):=qd r 0;have c1:wA.cell? ⟨o,1,none⟩=some (.int .i64 d):=qd r 1;have c2:wA.cell? ⟨o,2,none⟩=some (.int .i64 f):=qd r 2;have c3:wA.cell? ⟨o,3,none⟩=some (.int .i64 p):=qd r 3;have c4:wA.cell? ⟨o,4,none⟩=some (.int .u32 l):=qd r 4;have c5:wA.cell? ⟨o,5,none⟩=some (.int .i64 i):=qd r 5;have c6:wA.cell? ⟨o,6,none⟩=some (.slice ka kl kc):=qd r 6;have c7:wA.cell? ⟨o,7,none⟩=some (.slice sa sl sc):=qd r 7;have c8:wA.cell? ⟨o,8,none⟩=some (.slice pa pl pc):=qd r 8;have aT:o<wA.heap.size:=by omega
 have aa:=hid r;have aj:=hid ak;have aR:=hid aQ;clear r ak aQ;go_upto_region 2 with(first|((with_reducible show wpList _ _ _ (Oper.mk none (Op.store 171 _ _) _ _ _ _::_) _ _);refine wpList_store_row rfl 171 _ _ rfl wA.heap.size #[.int .i64 d,.int .i64 (kl:Nat),.int .i64 f,.int .i64 p,.int .u32 l,.int .u64 (at_:Nat),.int .u32 0,.int .i64 (row:Nat),.int .i64 i,.slice sa sl sc,.slice pa pl pc] rfl rfl 171 _ (Wn _ _) (by kernel_rfl) rfl (by simp[Value.oneCell']) ?_))
 refine qn ?_;intro W hW;obtain⟨b2,am⟩:=Ex (o+2);have aF:W.heap[b2]? =some (.cells #[.int .i64 d,.int .i64 (kl:Nat),.int .i64 f,.int .i64 p,.int .u32 l,.int .u64 (at_:Nat),.int .u32 0,.int .i64 (row:Nat),.int .i64 i,.slice sa sl sc,.slice pa pl pc] 171 (0,0)):=by rw[hW,←am,←az];exact Wn _ _
 have ao:Below b2 wA W:=by rw[hW,←am,←az];exact Br.alloc Nl _
 rw[am];have aI:Below o w W:=aR.out.trans (ao.mono (by omega));have r:W.heap[o]? =some (.cells #[.int .i64 k,.int .i64 d,.int .i64 f,.int .i64 p,.int .u32 l,.int .i64 i,.slice ka kl kc,.slice sa sl sc,.slice pa pl pc] 26 (0,0)):=(ao.block o (by omega)).trans aa.out;have ak:W.heap[o+1]? =some (.cells #[.int .i64 0,.slice none 0 0,.slice none 0 0,.bool false,.int .i64 0,.slice none 0 0] 73 (0,0)):=(ao.block (o+1) (by omega)).trans aj.out;have c0:W.cell? ⟨o,0,none⟩=some (.int .i64 k):=qd r 0;have aX:b2<W.heap.size:=(Ai aF).1;have aV:o<W.heap.size:=by omega
 clear hW ao aR aa aj az aT;go_wp2_with ((with_reducible show wpList _ _ _ (Oper.mk _ (Op.load 171 _) _ _ _ _::_) _ _);refine wpList_load_row rfl 171 _ rfl b2 rfl _ _ _ _ aF Tryz.underlying171 rfl (by kernel_rfl) ?_)
 refine(aB.out W aI).mono ?_;rintro e w2 ⟨⟨bv,rfl,au⟩,ai⟩;obtain⟨a5,n5,k5,rfl⟩:=qs au;have aa:=hid (qg r ai);have aj:=hid (qg ak ai);have a9:=ai.size;have al:=ownsRow_le au (show o≤W.heap.size by omega);rw[←HB.out]at al;have aM:=hid al;have aS:=hid (show Below o w w2 from aI.trans (ai.mono (by omega)));have c0:w2.cell? ⟨o,0,none⟩=some (.int .i64 k):=qd aa.out 0;have c5:w2.cell? ⟨o,5,none⟩=some (.int .i64 i):=qd aa.out 5;have aU:o+1<w2.heap.size∧o<w2.heap.size:=by omega
 clear r ak aI ai au al aF aB am aX aV a9;go_upto_region 4 with(fail)
 refine qn ?_;intro V hV;obtain⟨q,an⟩:=Ex w2.heap.size;have ar:V.heap[q]? =some (.cells #[.int .i64 k,.slice a5 n5 k5,.slice none 0 0,.bool la,.int .i64 i,.slice da dn dc] 73 (0,0)):=by rw[hV,←an];exact Wn _ _
 have ag:Below q w2 V:=by rw[hV,←an];exact Br.alloc Nl _
 rw[an];have ay:V.heap[o]? =_:=(ag.block o (by omega)).trans aa.out;have aD:V.heap[o+1]? =_:=(ag.block (o+1) (by omega)).trans aj.out;have D:=hid ar;have ae:=hid ay;have O:=hid aD;have bg:=(Ai ar).1;have ah:=hid (show Below o w V from aS.out.trans (ag.mono (by omega)));have af:=hid (qi aM.out (fun g _ g2=>ag.block g (by omega)));have be:o+1<q∧o<V.heap.size∧o+1<V.heap.size:=by omega
 clear hV an ag aa aj aS aM c0 c5 aU ay aD ar;by_cases aK:row=0
 case neg=>
  have hq: ¬((row:Int)=0):=by omega
  have aJ:Za row kz=[]:=if_neg aK
  cases rt
  case false=>
   go_wp2_with (first|((with_reducible show wpList _ _ _ (Oper.mk _ (Op.load 73 _) _ _ _ _::_) _ _);refine wpList_load_row rfl 73 _ rfl q rfl _ _ _ _ D.out Tryz.underlying73 rfl (by kernel_rfl) ?_)|((with_reducible show wpList _ _ _ (Oper.mk none (Op.store 73 _ _) _ _ _ _::_) _ _);refine wpList_store_row rfl 73 _ _ rfl (o+1) #[.int .i64 k,.slice a5 n5 k5,.slice none 0 0,.bool la,.int .i64 i,.slice da dn dc] rfl rfl 73 _ O.out (by kernel_rfl) rfl (by simp[Value.oneCell']) ?_))
   exact Bp (results_cell_row rfl _ _ _ _ _ _ _ rfl (setRow_heap _ _ _ _ _ _ O.out) Tryz.underlying73 rfl (by kernel_rfl)) rfl (by rw[I];exact⟨_,_,rfl,Qd af.out O.out (by decide),(by first|exact Wo _ _ _ _|(rw[aJ];exact Wo _ _ _ _)),below_setRow ah.out (by omega) _⟩)
  case true=>
   have c1:V.cell? ⟨o,1,none⟩=some (.int .i64 d):=qd ae.out 1;have c4:V.cell? ⟨q,4,none⟩=some (.int .i64 i):=qd D.out 4;have f4:=frozen_of_row V q 4 _ _ D.out;go_upto_region 8 with(fail)
   have aC:=hid (heap_setCell_same V q 4 _ _ (.int .i64 d) D.out);have Z:=hid ((heap_setCell_other V ⟨q,4,none⟩ (o+1) (.int .i64 d) (show o+1≠q by omega)).trans O.out);have aE:=hid (QA af.out D.out 4 (.int .i64 d) (by decide));have aq:=hid (show Below o w (V.setCell ⟨q,4,none⟩ (.int .i64 d)) from ah.out.setCell (show o≤q by omega) _);clear c1 c4 f4;generalize V.setCell ⟨q,4,none⟩ (.int .i64 d)=V6 at*;go_wp2_with (first|((with_reducible show wpList _ _ _ (Oper.mk _ (Op.load 73 _) _ _ _ _::_) _ _);refine wpList_load_row rfl 73 _ rfl q rfl _ _ _ _ aC.out Tryz.underlying73 rfl (by kernel_rfl) ?_)|((with_reducible show wpList _ _ _ (Oper.mk none (Op.store 73 _ _) _ _ _ _::_) _ _);refine wpList_store_row rfl 73 _ _ rfl (o+1) #[.int .i64 k,.slice a5 n5 k5,.slice none 0 0,.bool la,.int .i64 d,.slice da dn dc] rfl rfl 73 _ Z.out (by kernel_rfl) rfl (by simp[Value.oneCell']) ?_))
   exact Bp (results_cell_row rfl _ _ _ _ _ _ _ rfl (setRow_heap _ _ _ _ _ _ Z.out) Tryz.underlying73 rfl (by kernel_rfl)) rfl (by rw[I];exact⟨_,_,rfl,Qd aE.out Z.out (by decide),(by first|exact Wo _ _ _ _|(rw[aJ];exact Wo _ _ _ _)),below_setRow aq.out (by omega) _⟩)
 subst aK;have aJ:Za 0 kz=kz:=rfl;obtain⟨i0,hi,a4,av,ap⟩:=info_parts Qr;have c6:V.cell? ⟨o,6,none⟩=some (.slice ka kl kc):=qd ae.out 6;have aY:=hid (HK.out.below (I▸ah.out)).src;have c2:V.cell? ⟨q,2,none⟩=some (.slice none 0 0):=qd D.out 2;have f2:=frozen_of_row V q 2 _ _ D.out;go_upto_region 6 with(first|(at_builtin;refine qT rfl _ _ _ rfl V V.heap.size rfl (by repeat(first|exact Below.refl _ _|refine Below.drew ?_)) 5 i0 (.int .u8 0) 1 Tryz.underlying24 hi a4 av ap rfl _ 0 [] rfl (Wo _ _ _ _) _ _ _ rfl (aY.out) (by unfold maxLen;omega) (by omega) ?_;intro v' w' ac aG;obtain⟨J,U,Y,rfl⟩:=qs ac;have ad:=qg D.out aG;have aZ:w'.cell? ⟨q,2,none⟩=some (.slice none 0 0):=qd ad 2;have ba:=frozen_of_row w' q 2 _ _ ad;have a7:q<w'.heap.size:=(Ai ad).1;have aA:=hid ac;have G:=hid aG;clear ad ac aG))
 have aN:=(show Below o w w' from ah.out.trans (G.out.mono (by omega)));have aO:Below o w (w'.setCell ⟨q,2,none⟩ (.slice J U Y)):=aN.setCell (show o≤q by omega) _;have X:=hid (heap_setCell_same w' q 2 _ _ (.slice J U Y) (qg D.out G.out));have ab:=hid ((heap_setCell_other w' ⟨q,2,none⟩ (o+1) (.slice J U Y) (show o+1≠q by omega)).trans (qg O.out G.out));have aW:=hid ((heap_setCell_other w' ⟨q,2,none⟩ o (.slice J U Y) (show o≠q by omega)).trans (qg ae.out G.out));have ax:=hid (QA (qi af.out (fun g _ g2=>G.out.block g g2)) (qg D.out G.out) 2 (.slice J U Y) (by decide));have aw:=hid (QA (ownsRow_le aA.out (show o≤V.heap.size by omega)) (qg D.out G.out) 2 (.slice J U Y) (by decide));have aH:=hid aO;have bb:(w'.setCell ⟨q,2,none⟩ (.slice J U Y)).heap.size=w'.heap.size:=by simp[World.setCell]
 have bc:=G.out.size;rw[Nat.zero_add,List.nil_append]at aw;have bf:q<(w'.setCell ⟨q,2,none⟩ (.slice J U Y)).heap.size∧o<(w'.setCell ⟨q,2,none⟩ (.slice J U Y)).heap.size∧o+1<(w'.setCell ⟨q,2,none⟩ (.slice J U Y)).heap.size:=by omega
 clear aN aO bb bc D O ae af ah aA G aZ ba a7 c2 f2 c6;generalize w'.setCell ⟨q,2,none⟩ (.slice J U Y)=V5 at*
 cases rt
 case false=>
  go_wp2_with (first|((with_reducible show wpList _ _ _ (Oper.mk _ (Op.load 73 _) _ _ _ _::_) _ _);refine wpList_load_row rfl 73 _ rfl q rfl _ _ _ _ X.out Tryz.underlying73 rfl (by kernel_rfl) ?_)|((with_reducible show wpList _ _ _ (Oper.mk none (Op.store 73 _ _) _ _ _ _::_) _ _);refine wpList_store_row rfl 73 _ _ rfl (o+1) #[.int .i64 k,.slice a5 n5 k5,.slice J U Y,.bool la,.int .i64 i,.slice da dn dc] rfl rfl 73 _ ab.out (by kernel_rfl) rfl (by simp[Value.oneCell']) ?_))
  exact Bp (results_cell_row rfl _ _ _ _ _ _ _ rfl (setRow_heap _ _ _ _ _ _ ab.out) Tryz.underlying73 rfl (by kernel_rfl)) rfl (by rw[I];exact⟨_,_,rfl,Qd ax.out ab.out (by decide),(Qd aw.out ab.out (by decide)),below_setRow aH.out (by omega) _⟩)
 case true=>
  have c1:V5.cell? ⟨o,1,none⟩=some (.int .i64 d):=qd aW.out 1;have c4:V5.cell? ⟨q,4,none⟩=some (.int .i64 i):=qd X.out 4;have f4:=frozen_of_row V5 q 4 _ _ X.out;go_upto_region 8 with(fail)
  have aC:=hid (heap_setCell_same V5 q 4 _ _ (.int .i64 d) X.out);have Z:=hid ((heap_setCell_other V5 ⟨q,4,none⟩ (o+1) (.int .i64 d) (show o+1≠q by omega)).trans ab.out);have aE:=hid (QA ax.out X.out 4 (.int .i64 d) (by decide));have a3:=hid (QA aw.out X.out 4 (.int .i64 d) (by decide));have aq:=hid (show Below o w (V5.setCell ⟨q,4,none⟩ (.int .i64 d)) from aH.out.setCell (show o≤q by omega) _);clear c1 c4 f4;generalize V5.setCell ⟨q,4,none⟩ (.int .i64 d)=V6 at*;go_wp2_with (first|((with_reducible show wpList _ _ _ (Oper.mk _ (Op.load 73 _) _ _ _ _::_) _ _);refine wpList_load_row rfl 73 _ rfl q rfl _ _ _ _ aC.out Tryz.underlying73 rfl (by kernel_rfl) ?_)|((with_reducible show wpList _ _ _ (Oper.mk none (Op.store 73 _ _) _ _ _ _::_) _ _);refine wpList_store_row rfl 73 _ _ rfl (o+1) #[.int .i64 k,.slice a5 n5 k5,.slice J U Y,.bool la,.int .i64 d,.slice da dn dc] rfl rfl 73 _ Z.out (by kernel_rfl) rfl (by simp[Value.oneCell']) ?_))
  exact Bp (results_cell_row rfl _ _ _ _ _ _ _ rfl (setRow_heap _ _ _ _ _ _ Z.out) Tryz.underlying73 rfl (by kernel_rfl)) rfl (by rw[I];exact⟨_,_,rfl,Qd aE.out Z.out (by decide),(Qd a3.out Z.out (by decide)),below_setRow aq.out (by omega) _⟩)
structure KB (B:Nat)(w w':World):Prop where
 os:w'.os=w.os
 tape:w'.tape=w.tape
 output:w'.output=w.output
 size:w.heap.size≤w'.heap.size
 block: ∀k:Nat,k<B→w'.heap[k]? =w.heap[k]?
 bytes: ∀(k:Nat) (c:Array Value),w.heap[k]? =some (.cells c 5 (0,0))→w'.heap[k]? =some (.cells c 5 (0,0))
namespace KB
variable {B:Nat} {w w' w'':World}
theorem refl (B:Nat)(w:World):KB B w w:=⟨rfl,rfl,rfl,Nat.le_refl _,fun _ _=>rfl,fun _ _ h=>h⟩
theorem trans (h:KB B w w')(k:KB B w' w''):KB B w w'':=⟨k.os.trans h.os,k.tape.trans h.tape,k.output.trans h.output,Nat.le_trans h.size k.size,fun j o=>(k.block j o).trans (h.block j o),fun j c q=>k.bytes j c (h.bytes j c q)⟩
theorem of_below (h:Below w.heap.size w w')(r:B≤w.heap.size):KB B w w':=⟨h.os,h.tape,h.output,h.size,fun k q=>h.block k (by omega),fun k c o=>(h.block k (Ai o).1).trans o⟩
theorem of_but {g:Nat}{c:Array Value}{T:TypeId}{fr:Nat×Nat}(h:But g w w')(J:B≤w.heap.size)(G:B≤g)(r:w.heap[g]? =some (.cells c T fr))(q:T≠5):KB B w w':=
 ⟨h.os,h.tape,h.output,h.size,fun k I=>h.block k (by omega) (by omega),fun k D o=>by
  rw[h.block k (Ai o).1 ?_];exact o;rintro rfl
  rw[r]at o;simp only[Option.some.injEq,Obj.cells.injEq]at o;exact q o.2.1⟩
theorem below (h:KB B w w'):Below B w w':=⟨h.os,h.tape,h.output,h.size,h.block⟩
end KB
theorem Fresh.kb {B b:Nat}{w w':World}{x:Value}{z:List Int}(h:Fresh B w x z)(k:KB b w w'):Fresh B w' x z:=by
 rcases h with h|⟨g,q,o,e,G,r,D⟩
 ·exact .inl h
 ·exact .inr ⟨g,q,o,e,G,k.bytes _ _ r,D⟩
theorem yI {B n:Nat}{w:World}{x:Value}{z:List Int}(h:w.ownsRow B 5 1 x n (z.map qt)):Fresh B w x z:=by
 have o:z.length=n:=by have:=h.1;simpa using this
 rcases h.2 with⟨rfl,O⟩|⟨g,r,q,rfl,I,D,U,G,V,J⟩
 ·exact .inl ⟨List.eq_nil_of_length_eq_zero (by omega),rfl⟩
 ·exact .inr ⟨g,r,q,by rw[o],I,D,by omega,by omega,G,by rw[o];simpa using J⟩
theorem own_kb {B b n:Nat}{w w':World}{x:Value}{xs:List Value}(h:w.ownsRow B 5 1 x n xs)(k:KB b w w'):w'.ownsRow B 5 1 x n xs:=by
 refine⟨h.1,?_⟩;rcases h.2 with o|⟨g,r,q,e,G,o,D⟩
 ·exact .inl o
 ·exact .inr ⟨g,r,q,e,G,k.bytes _ _ o,D⟩
def OwnB (B:Nat)(w:World)(x:Value)(z:List Int):Prop:=(∀a∈z,0≤a∧a≤255)∧Fresh B w x z
theorem OwnB.kb {B b:Nat}{w w':World}{x:Value}{z:List Int}(h:OwnB B w x z)(k:KB b w w'):OwnB B w' x z:=⟨h.1,h.2.kb k⟩
theorem OwnB.hold {B:Nat}{w:World}{x:Value}{z:List Int}(h:OwnB B w x z):Hold w x z:=h.2.hold h.1
theorem OwnB.le {B b:Nat}{w:World}{x:Value}{z:List Int}(h:OwnB B w x z)(o:b≤B):OwnB b w x z:=⟨h.1,h.2.le o⟩
theorem OwnB.one {B:Nat}{w:World}{x:Value}{z:List Int}(h:OwnB B w x z):x.oneCell'=true:=by
 rcases h.2 with⟨-,rfl⟩|⟨g,q,o,rfl, -⟩<;>rfl
def qK (L:List (List Int))(i:Nat):List Int:=L.getD i []
def ListO (B:Nat)(w:World)(v:Value)(L:List (List Int)):Prop:=
 ∃vs,w.ownsRow B 24 1 v L.length vs∧ ∀i,i<L.length→OwnB B w (vs.getD i undef) (qK L i)
def ListH (w:World)(v:Value)(L:List (List Int)):Prop:=
 ∃a cap,v= .slice a L.length cap∧L.length≤cap∧(cap:Int)≤9223372036854775807∧(L=[]∨ ∃g off,a=some ⟨g,off,none⟩∧g<w.heap.size∧ ∀i,i<L.length→ ∃x,w.cell? ⟨g,off+i,none⟩=some x∧Hold w x (qK L i))
theorem ListO.hold {B:Nat}{w:World}{v:Value}{L:List (List Int)}(h:ListO B w v L):ListH w v L:=by
 obtain⟨vs,r,V⟩:=h;have X:vs.length=L.length:=by have:=r.1;simpa using this
 rcases r.2 with⟨rfl,o⟩|⟨g,D,G,rfl,Y,q,U,O,Z,J⟩
 ·exact⟨none,0,by rw[o],by omega,by omega,.inl (List.eq_nil_of_length_eq_zero o)⟩
 ·refine⟨_,D,rfl,U,by unfold maxLen at O;omega,.inr ⟨g,0,rfl,(Ai q).1,fun i I=>⟨vs.getD i undef,?_,(V i I).hold⟩⟩⟩;rw[qd q (0+i),Nat.zero_add];have e:G.toList[i]? =vs[i]? :=by rw[←J,List.getElem?_take,if_pos (by omega)]
  rw[←Array.getElem?_toList,e,Lg,List.getElem?_eq_getElem (by omega)];rfl
theorem ListH.below {w w':World}{v:Value}{L:List (List Int)}(h:ListH w v L)(o:Below w.heap.size w w'):ListH w' v L:=by
 obtain⟨a,D,rfl,U,J,q⟩:=h;refine⟨a,D,rfl,U,J,?_⟩;rcases q with q|⟨g,off,rfl,r,V⟩
 ·exact .inl q
 ·refine .inr ⟨g,off,rfl,Nat.lt_of_lt_of_le r o.size,fun i G=>?_⟩;obtain⟨x,I,O⟩:=V i G;exact⟨x,(o.cell (p:=⟨g,off+i,none⟩) r).trans I,O.below o⟩
theorem qd3 {L:List (List Int)}{i:Nat}(o:i<L.length):qK L i∈L:=by
 unfold qK;rw[Lg,List.getElem?_eq_getElem o];exact List.getElem_mem o
theorem J0 {L:List (List Int)}{k:Nat}(o:k<L.length):(L.take (k+1)).flatten=(L.take k).flatten++qK L k:=by
 have e:L.take (k+1)=L.take k++[qK L k]:=by
  unfold qK;rw[List.take_succ,Lg,List.getElem?_eq_getElem o];rfl
 rw[e,List.flatten_append];simp
theorem qdn (L:List (List Int))(k:Nat):(L.take k).flatten.length≤L.flatten.length:=by
 conv=>rhs;rw[←List.take_append_drop k L,List.flatten_append,List.length_append]
 omega
theorem qad (L:List (List Int))(v:Value)(w:World)(h:ListH w v L)(Z:L.flatten.length≤70368744177664):
  Calls Tryz.prog 66 #[v] w fun e w'=> ∃u,e= .returned u∧w'.ownsRow w.heap.size 5 1 u L.flatten.length (L.flatten.map qt)∧Below w.heap.size w w':=by
 obtain⟨i0,hi,aa,ab,X⟩:=info_parts Qr;obtain⟨J,r⟩:=Ex w.heap.size;have HH:=hid h;obtain⟨a,ai,rfl,ah,aj, -⟩:=h;have ag:(L.length:Int)≤9223372036854775807:=by omega
 have Y:=hid Z;clear Z;go_enter Tryz.func66,Tryz.ntmps66
 go_wp2_with fail
 go_loopw [3,8] (fun s i wr=> ∃k:Nat,i= .int .i64 (k:Nat)∧k≤L.length∧wr.ownsRow J 5 1 s (L.take k).flatten.length ((L.take k).flatten.map qt)∧Below J w wr) (fun _ i _=>L.length - (intOf i).toNat)
 case atStart=>exact⟨0,rfl,Nat.zero_le _,Wo _ _ _ _,Below.refl _ _⟩
 case round=>
  obtain⟨k,rfl,hk,G,q⟩:=hrel;by_cases o:k<L.length
  case pos=>
   obtain⟨a',ae,e, -, -,h3⟩:=HH.out;obtain⟨g,off,rfl,h4,h5⟩:=h3.resolve_left (fun e=>by rw[e]at o;simp at o);simp only[Value.slice.injEq]at e;obtain⟨rfl, -, -⟩:=e;obtain⟨x,hx,O⟩:=h5 k o;have c0:wr.cell? ⟨g,off+k,none⟩=some x:=(q.cell (p:=⟨g,off+k,none⟩) (show g<J by omega)).trans hx;have af:g<wr.heap.size:=by have:=q.size;omega
   have HX:=hid (O.below (r▸q)).src;have V:=hid G;have U:=hid q;have D:=qdn L (k+1);rw[J0 o,List.length_append]at D;have HF:=hid D;have ad:(k:Int)<L.length:=by omega
   clear hx O h5 h4 h3 G q D;go_wp2_with (at_builtin;refine qT rfl _ _ _ rfl w J r.symm U.out 5 i0 (.int .u8 0) 1 Tryz.underlying24 hi aa ab X rfl _ _ _ rfl V.out _ _ _ rfl HX.out (by have:=HF.out;have:=Y.out;unfold maxLen;omega) (by have:=HF.out;have:=Y.out;omega) ?_;intro v' w' I ac)
   refine⟨⟨k+1,rfl,by omega,?_,ac⟩,by simp[intOf];omega⟩;rw[J0 o,List.length_append,List.map_append];exact I
  obtain rfl:k=L.length:=by omega
  rw[List.take_length]at G;have V:=hid G;have U:=hid q;clear G q;go_wp2
  go_ret
  exact⟨_,rfl,r▸V.out,r▸U.out⟩
theorem QS {P:Program}{ops:Array Oper}{O:List Oper}{o:Oper}{a:Act}{Q:Exit→Act→World→Prop}{W:World}(V:o.guard=none)(s x:Operand)(t:TypeId)
  (ho:o.op= .call { callee:= .builtin .append,args:= #[s,x],argTypes:= #[t,t] }) (B:Nat) (e:TypeId) (he:e≠5) (i:TypeInfo) (z:Value) (size bytes:Nat) (ht:P.underlying t=some (.slice e)) (hi:P.info? e=some i) (hz:i.zero=some z)
  (U:i.size=size) (X:i.bytes=bytes) (Z:z.cells.size=size) (ab:0<size) (v:Value) (n:Nat) (xs I:List Value) (T:TypeId) (hs:a.eval s=v) (r:W.ownsRow B e size v n xs)
  (hx:a.eval x= .slice (some ⟨W.heap.size,0,none⟩) 1 1) (hl:I.length=size) (h1: ∀u∈I,u.oneCell'=true) (Y:n+1≤maxLen) (J:(n+1)*bytes≤140737488355328) (hB:B≤W.heap.size)
  (h: ∀v' w',w'.ownsRow B e size v' (n+1) (xs++I)→KB B W w'→Spare (fun k=>v.ownBlock≠some k) W w'→wpList P ops Q O (a.put o.dst v') w'):wpList P ops Q (o::O) a (W.alloc (.cells I.toArray T)):=by
 refine wpList_append_own _ V s x t ho B e i z size bytes ht hi hz U X Z ab v n xs hs (r.alloc _) ⟨W.heap.size,0,none⟩ 1 1 I hx (by omega) (fun j u hj=>?_) h1 Y J (by simp;omega) fun v' w' h2 h3 _=>?_
 ·rw[Go.WideShapes.add_plain,qd (Wn W _) (0+j),Nat.zero_add];simpa using hj
 have q:Spare (fun k=>v.ownBlock≠some k) W w':=(Spare.of_below _ (Br.alloc Nl _)).trans (Spare.of_grown h3) (fun _ _ h=>h);refine h v' w' h2 ⟨q.os,q.tape,q.output,q.size,fun k hk=>q.block k (by omega) (fun D=>?_),fun k c G=>?_⟩ q
 ·rcases r.2 with⟨rfl, -⟩|⟨g,aa,ac,rfl,h4, -⟩
  ·cases D
  ·simp only[Value.ownBlock,Option.some.injEq]at D;omega
 ·rw[q.block k (Ai G).1 (fun D=>?_)]
  ·exact G
  ·rcases r.2 with⟨rfl, -⟩|⟨g,aa,ac,rfl, -,h5, -⟩
   ·cases D
   ·simp only[Value.ownBlock,Option.some.injEq]at D;subst D;rw[h5]at G;simp only[Option.some.injEq,Obj.cells.injEq]at G;exact he G.2.1
theorem ListO.nil (B:Nat)(w:World):ListO B w (.slice none 0 0) []:=⟨[],Wo _ _ _ _,fun i o=>by simp at o⟩
theorem ListO.kb {B b:Nat}{w w':World}{v:Value}{L:List (List Int)}(h:ListO B w v L)(k:KB b w w')(O: ∀g,v.ownBlock=some g→w'.heap[g]? =w.heap[g]?):ListO B w' v L:=by
 obtain⟨vs,q,U⟩:=h;refine⟨vs,⟨q.1,?_⟩,fun i G=>(U i G).kb k⟩;rcases q.2 with o|⟨g,r,D,rfl,J,o,I⟩
 ·exact .inl o
 ·exact .inr ⟨g,r,D,rfl,J,(O g rfl).trans o,I⟩
theorem ListO.below {B:Nat}{w w':World}{v:Value}{L:List (List Int)}(h:ListO B w v L)(k:Below w.heap.size w w'):ListO B w' v L:=by
 refine h.kb (KB.of_below k (Nat.zero_le _)) fun g o=>?_
 obtain⟨vs,r, -⟩:=h;rcases r.2 with⟨rfl, -⟩|⟨I,G,D,rfl, -,q, -⟩
 ·cases o
 ·simp only[Value.ownBlock,Option.some.injEq]at o;subst o;exact k.block _ (Ai q).1
theorem ListO.le {B b:Nat}{w:World}{v:Value}{L:List (List Int)}(h:ListO B w v L)(o:b≤B):ListO b w v L:=by
 obtain⟨vs,r,q⟩:=h;exact⟨vs,ownsRow_le r o,fun i D=>(q i D).le o⟩
theorem ListO.snoc {B:Nat}{w w':World}{v' x:Value}{L:List (List Int)}{z:List Int}{vs:List Value}(O: ∀i,i<L.length→OwnB B w (vs.getD i undef) (qK L i))(I:vs.length=L.length)(G:OwnB B w x z)
  (J:w'.ownsRow B 24 1 v' (L.length+1) (vs++[x])) (r:KB B w w'):ListO B w' v' (L++[z]):=by
 refine⟨vs++[x],by simpa using J,fun i D=>?_⟩;simp only[List.length_append,List.length_singleton]at D;by_cases h:i<L.length
 ·have o:(vs++[x]).getD i undef=vs.getD i undef:=by simp[Lg,List.getElem?_append_left (show i<vs.length by omega)]
  have q:qK (L++[z]) i=qK L i:=by simp[qK,Lg,List.getElem?_append_left h]
  rw[o,q];exact(O i h).kb r
 ·obtain rfl:i=L.length:=by omega
  have o:(vs++[x]).getD L.length undef=x:=by simp[Lg,←I]
  have q:qK (L++[z]) L.length=z:=by simp[qK,Lg]
  rw[o,q];exact G.kb r
theorem yH:(Tryz.prog.info? 24).map (fun i=>(i.zero,i.size,i.bytes))=some (some (.slice none 0 0),1,24):=by kernel_rfl
theorem QG {ops:Array Oper}{q:List Oper}{o:Oper}{D:Act}{w:World}{Q:Exit→Act→World→Prop}(O:o.guard=none)(x:Operand)(V:o.op= .buildSlice 67 1 #[(0,x)])(a:Option Addr)(n k:Nat)(J:D.eval x= .slice a n k)
  (h:wpList Tryz.prog ops Q q (D.put o.dst (.slice (some ⟨w.heap.size,0,none⟩) 1 1)) (w.alloc (.cells #[.slice a n k] 24))):wpList Tryz.prog ops Q (o::q) D w:=by
 obtain⟨U,I,G,r, -⟩:=info_parts yH;exact wpList_buildSlice O 67 24 1 _ V #[.slice a n k] U _ Tryz.underlying67 I G (by rw[r];decide) (by rw[r];decide) (by rw[r,show Array.range (1*1)= #[0] by decide];simp[J,Instr.fill,Value.cells]) h
end Go.Proofs.YthjoojnlnlmljaaGreat
namespace Go.Proofs.YthjoojnlnlmljaaGreat
open Go.ChangeShapes Go.WideShapes Go.ChangeAt Go.RowKit Go.Joins Go.Shelf Go.Maps
open Go.Lib (hid)
theorem ZA {n d j:Nat}(G:1≤d):j<qR n d↔j*d<n:=by
 have q:=Nat.div_add_mod n d;have D:=Nat.mod_lt n (show 0<d by omega);unfold qR;split
 ·rename_i r;rw[r,Nat.add_zero]at q;conv=>rhs;rw[←q,Nat.mul_comm]
  exact(Nat.mul_lt_mul_left (show 0<d by omega)).symm
 ·constructor
  ·intro h;have o:j*d≤(n/d)*d:=Nat.mul_le_mul_right d (by omega);rw[Nat.mul_comm (n/d) d]at o;omega
  ·intro h;have o:j*d<(n/d+1)*d:=by rw[Nat.add_mul,Nat.one_mul,Nat.mul_comm (n/d) d];omega
   exact Nat.lt_of_mul_lt_mul_right o
def ZL {α:Type}(n:Nat)(L:List α)(i:Nat):List α:=(L.drop (i*n)).take n
def z9 {α:Type}(n:Nat)(L:List α)(m:Nat):List (List α):=(List.range m).map (ZL n L)
theorem qay {α:Type}(n:Nat)(L:List α)(m:Nat):z9 n L (m+1)=z9 n L m++[ZL n L m]:=by simp[z9,List.range_succ]
theorem Qu {α:Type}(n:Nat)(L:List α)(m:Nat):(z9 n L m).length=m:=by simp[z9]
def yV (n:Nat)(zs:List Int):List (List Int):=if zs=[] then [[]] else z9 n zs (qR zs.length n)
def ZM (f:Nat)(L:List (List Int))(m:Nat):List (List Int):=(List.range m).map fun i=>(ZL f L i).flatten
theorem qbK (f:Nat)(L:List (List Int))(m:Nat):ZM f L (m+1)=ZM f L m++[(ZL f L m).flatten]:=by simp[ZM,List.range_succ]
theorem QJ (f:Nat)(L:List (List Int))(m:Nat):(ZM f L m).length=m:=by simp[ZM]
def TreeV.rootZ (t:TreeV)(row n:Nat):Bool:=decide (t.f=0∨(row:Int)=t.p - 1∨(n:Int)≤t.f)
def TreeV.upZ (t:TreeV)(row:Nat)(L:List (List Int)):List (List Int):=if t.rootZ row L.length then [L.flatten] else ZM t.fn L (qR L.length t.fn)
theorem YE {L M:List (List Int)}(h:M.Sublist L):M.flatten.length≤L.flatten.length:=by
 induction h with
 | slnil=>exact Nat.le_refl _
 | cons a _ ih=>simp only[List.flatten_cons,List.length_append];omega
 | cons_cons a _ ih=>simp only[List.flatten_cons,List.length_append];omega
theorem J7 {α:Type}(n:Nat)(L:List α)(i:Nat):(ZL n L i).Sublist L:=(List.take_sublist _ _).trans (List.drop_sublist _ _)
theorem J8 (L:List (List Int))(k i:Nat):qK (L.drop k) i=qK L (k+i):=by simp[qK,Lg,List.getElem?_drop]
theorem qgu {L:List (List Int)}{k i:Nat}(h:i<k):qK (L.take k) i=qK L i:=by simp[qK,Lg,List.getElem?_take,h]
theorem ListH.take {w:World}{a:Option Addr}{n c k:Nat}{L:List (List Int)}(h:ListH w (.slice a n c) L)(V:k≤L.length):ListH w (.slice a k k) (L.take k):=by
 obtain⟨O,Y,e,Z,X,q⟩:=h;simp only[Value.slice.injEq]at e;obtain⟨rfl, -,rfl⟩:=e;have G:(L.take k).length=k:=by simp;omega
 refine⟨a,k,by rw[G],by omega,by omega,?_⟩;by_cases o:L.take k=[]
 ·exact .inl o
 rcases q with q|⟨g,off,rfl,D,J⟩
 ·rw[q]at o;simp at o
 ·refine .inr ⟨g,off,rfl,D,fun i U=>?_⟩;obtain⟨x,r,I⟩:=J i (by omega);exact⟨x,r,by rw[qgu (by omega)];exact I⟩
theorem ListH.drop {w:World}{a o:Option Addr}{n c k O D:Nat}{L:List (List Int)}(h:ListH w (.slice a n c) L)(hk:k≤L.length)(Y:O=L.length - k)(hc:D=c - k)(g off:Nat)(ha:a=some ⟨g,off,none⟩)(J:o=some ⟨g,off+k,none⟩∨o=some ⟨g,off,none⟩∧c≤k):ListH w (.slice o O D) (L.drop k):=by
 subst ha;obtain⟨a1,c1,e,h1,h2,G⟩:=h;simp only[Value.slice.injEq]at e;obtain⟨rfl, -,rfl⟩:=e;refine⟨o,D,by simp[Y],by simp;omega,by omega,?_⟩;by_cases I:L.drop k=[]
 ·exact .inl I
 have r:k<L.length:=Nat.lt_of_not_le fun q=>I (List.drop_eq_nil_of_le q)
 rcases J with rfl|⟨-,q⟩
 ·rcases G with G|⟨g',U,e,q,h5⟩
  ·rw[G]at r;simp at r
  ·simp only[Option.some.injEq,Addr.mk.injEq,and_true]at e;obtain⟨rfl,rfl⟩:=e;refine .inr ⟨g,off+k,rfl,q,fun i X=>?_⟩;obtain⟨x,V,Z⟩:=h5 (k+i) (by simp at X;omega);exact⟨x,by rw[Nat.add_assoc];exact V,by rw[J8];exact Z⟩
 ·omega
end Go.Proofs.YthjoojnlnlmljaaGreat
namespace Go.Proofs.YthjoojnlnlmljaaGreat
open Go.ChangeShapes Go.WideShapes Go.ChangeAt Go.RowKit Go.Joins Go.Shelf Go.Maps
open Go.Lib (hid)
attribute [local go_sem] Oper.semAt_some
theorem qcC {B:Nat}{w:World}{x:Value}{z:List Int}(q:OwnB B w x z)(o:B≤w.heap.size):ListO B (w.alloc (.cells #[x] 24)) (.slice (some ⟨w.heap.size,0,none⟩) 1 1) [z]:=by
 refine⟨[x],⟨rfl,.inr ⟨w.heap.size,1,#[x],rfl,o,Wn w _,Nat.le_refl _,by unfold maxLen;omega,rfl,rfl⟩⟩,fun i r=>?_⟩;obtain rfl:i=0:=by simpa using r
 exact q.kb (KB.of_below (Br.alloc Nl _) o)
theorem Jq {L:List (List Int)}(h: ∀z∈L,∀a∈z,0≤a∧a≤255): ∀a∈L.flatten,0≤a∧a≤255:=fun a o=>by
 obtain⟨z,q,o⟩:=List.mem_flatten.1 o;exact h z q a o
theorem ListH.bytes {w:World}{v:Value}{L:List (List Int)}(h:ListH w v L): ∀z∈L,∀a∈z,0≤a∧a≤255:=fun z q a G=>by
 obtain⟨O,J, -, -, -,D⟩:=h;rcases D with rfl|⟨g,off, -, -,I⟩
 ·cases q
 ·obtain⟨i,o,rfl⟩:=List.mem_iff_getElem.1 q;obtain⟨x, -,r⟩:=I i o;have e:qK L i=L[i]:=by unfold qK;rw[Lg,List.getElem?_eq_getElem o];rfl
  rw[e]at r;exact r.1 a G
theorem Y4 {B n:Nat}{w:World}{x:Value}{z:List Int}(o: ∀a∈z,0≤a∧a≤255)(h:w.ownsRow B 5 1 x n (z.map qt)):OwnB B w x z:=⟨o,yI h⟩
theorem qh1 (t:TreeV)(h:t.validE=0)(row:Nat)(hr:row≤255)(L:List (List Int))(v:Value)(w:World)(hL:ListH w v L)(hn:L.flatten.length≤1073741824)(bf:L.length≤16777216)(au:L≠[]):
  Calls Tryz.prog 139 #[t.val,.int .i64 (row:Nat),v] w fun e w'=> ∃u,e= .returned (.tuple #[u,.bool (t.rootZ row L.length)])∧ListO w.heap.size w' u (t.upZ row L)∧Below w.heap.size w w':=by
 obtain⟨q,G⟩:=Ex w.heap.size;have ac:=qo h;have aS:=ac.2.2.2.2.2.1;have bj:2≤t.p∧t.p≤255:=⟨ac.2.2.2.2.2.2.1,ac.2.2.2.2.2.2.2.1⟩;have o:t.rootZ row L.length=decide (t.f=0∨(row:Int)=t.p - 1∨(L.length:Int)≤t.f):=rfl;have aw:t.upZ row L=if t.rootZ row L.length then [L.flatten] else ZM t.fn L (qR L.length t.fn):=rfl
 have aT:(t.fn:Int)=t.f:=by unfold TreeV.fn;omega
 generalize t.upZ row L=U at*;generalize t.rootZ row L.length=rt at*;generalize t.fn=fn at*;obtain⟨k,d,f,p,l,i,ka,kl,kc,sa,sl,sc,pa,pl,pc⟩:=t;unfold TreeV.val;simp only at*
 clear ac h;have be:0<L.length:=List.length_pos_iff.2 au;have HL:=hid hL;have aA:=hid hL.bytes;have HN:=hid hn;have ak:=hid aw;obtain⟨a,aK,rfl,a4,a7, -⟩:=hL;clear aw au hn;have aD:Below q w (w.alloc (.cells #[.int .i64 k,.int .i64 d,.int .i64 f,.int .i64 p,.int .u32 l,.int .i64 i,.slice ka kl kc,.slice sa sl sc,.slice pa pl pc] 26)):=by rw[←G];exact Br.alloc Nl _
 have O:=Wn w (.cells #[.int .i64 k,.int .i64 d,.int .i64 f,.int .i64 p,.int .u32 l,.int .i64 i,.slice ka kl kc,.slice sa sl sc,.slice pa pl pc] 26);rw[G]at O;go_enter Tryz.func139,Tryz.ntmps139
 go_upto_region 1 with(fail)
 generalize w.alloc (.cells #[.int .i64 k,.int .i64 d,.int .i64 f,.int .i64 p,.int .u32 l,.int .i64 i,.slice ka kl kc,.slice sa sl sc,.slice pa pl pc] 26)=wA at*;have c2:wA.cell? ⟨q,2,none⟩=some (.int .i64 f):=qd O 2;have c3:wA.cell? ⟨q,3,none⟩=some (.int .i64 p):=qd O 3;have aU:q<wA.heap.size:=(Ai O).1;have aI:=hid O;have al:=hid aD;clear O aD;go_cut [2,3,26] from 1 (fun x y u W=>x= .slice a L.length aK∧y= .pointer (some ⟨q,0,none⟩)∧u= .bool rt∧wA=W)
 case first=>
  by_cases h1:f=0
  case pos=>
   obtain rfl:rt=true:=by rw[o];exact decide_eq_true (.inl h1)
   have q1:(f==0)=true:=by rw[beq_iff_eq];exact h1
   clear o;subst h1;go_wp2
   go_meet
   case rel=>exact⟨rfl,rfl,rfl,by trivial⟩
  by_cases h2:(row:Int)=p - 1
  case pos=>
   obtain rfl:rt=true:=by rw[o];exact decide_eq_true (.inr (.inl h2))
   clear o;go_wp2
   go_meet
   case rel=>exact⟨rfl,rfl,rfl,by trivial⟩
  by_cases h3:(L.length:Int)≤f
  case pos=>
   obtain rfl:rt=true:=by rw[o];exact decide_eq_true (.inr (.inr h3))
   clear o;go_wp2
   go_meet
   case rel=>exact⟨rfl,rfl,rfl,by trivial⟩
  obtain rfl:rt=false:=by rw[o];exact decide_eq_false (by rintro(h|h|h);exact h1 h;exact h2 h;exact h3 h)
  clear o;go_wp2
  go_meet
  case rel=>exact⟨rfl,rfl,by simp[h1,h2],by trivial⟩
 case rest=>
  obtain⟨rfl,rfl,rfl,rfl⟩:=hcut;clear c3;have aJ:=HL.out.below (G▸al.out);obtain⟨ib,ar,aq,aF,aB⟩:=info_parts yH
  cases rt
  case true=>
   go_wp2_with fail
   refine(qad L _ _ aJ (by have:=HN.out;omega)).mono ?_;rintro e w2 ⟨u,rfl,ho,hb⟩;have Y:=Y4 (Jq aA.out) ho;have hB:=al.out.trans (hb.mono (by omega));have HO:=hid (qcC (Y.le (show q≤wA.heap.size by omega)) (by have:=hb.size;omega));have J:=hid (hB.alloc (by have:=hb.size;omega) (.cells #[u] 24));have hu:=Y.one;obtain⟨a6,n6,k6,rfl⟩:=qs ho;clear ho hb Y hB hu;go_wp2_with ((with_reducible show wpList _ _ _ (Oper.mk _ (Op.buildSlice _ _ _) _ _ _ _::_) _ _);refine QG rfl _ rfl _ _ _ rfl ?_)
   go_ret2
   exact⟨_,rfl,by rw[G,ak.out,if_pos trivial];exact HO.out,by rw[G];exact J.out⟩
  case false=>
   have aP: ¬(f=0∨(row:Int)=p - 1∨(L.length:Int)≤f):=of_decide_eq_false o.symm;have bh:2≤f∧f≤255∧f<L.length:=by omega
   have aH:=hid (show U=ZM fn L (qR L.length fn) from ak.out.trans (if_neg (by simp)));clear o aS aP ak;subst aT;go_wp2_with fail
   go_loopw [2,8] (fun x s wr=> ∃j:Nat,j≤qR L.length fn∧ListH w x (L.drop (j*fn))∧ListO (q+1) wr s (ZM fn L j)∧Below q w wr∧wr.heap[q]? =some (.cells #[.int .i64 k,.int .i64 d,.int .i64 (fn:Int),.int .i64 p,.int .u32 l,.int .i64 i,.slice ka kl kc,.slice sa sl sc,.slice pa pl pc] 26 (0,0))) (fun x _ _=>qd8 x)
   case atStart=>exact⟨0,Nat.zero_le _,by rw[Nat.zero_mul];exact HL.out,ListO.nil _ _,al.out,aI.out⟩
   case round=>
    obtain⟨j,hj,hx,ho,hb,ab⟩:=hrel;have c2:wr.cell? ⟨q,2,none⟩=some (.int .i64 (fn:Int)):=qd ab 2;have aU:q<wr.heap.size:=(Ai ab).1;have av:=hid ab;clear ab;have am:1≤fn:=by omega
    obtain⟨a1,cp,rfl,aN,a5, -⟩:=id hx;have HX:=hid hx;have HO:=hid ho;have HB:=hid hb;have ao:(L.drop (j*fn)).length=L.length - j*fn:=by simp
    obtain⟨m,hm⟩:=Ex ((L.drop (j*fn)).length);rw[hm]at aN ao⊢;have V:=hid ao;clear hx ho hb ao;by_cases aZ:0<m
    case pos=>
     have bb:j<qR L.length fn:=(ZA am).2 (by have:=V.out;omega);obtain⟨k,hk⟩:=Ex (min fn m);have HK:=hid hk;have bc:1≤k∧k≤m∧k≤cp:=by omega
     have bd:min (fn:Int) (m:Int)=(k:Int):=by omega
     have bg:0<(m:Int):=by omega
     clear hk;obtain⟨g,off,rfl,aY, -⟩: ∃g off,a1=some ⟨g,off,none⟩∧g<w.heap.size∧True:=by
      obtain⟨a',c',e, -, -,h3⟩:=HX.out;rcases h3 with h3|⟨g,off,rfl,h4, -⟩
      ·rw[h3]at hm;simp at hm;omega
      ·simp only[Value.slice.injEq]at e;exact⟨g,off,e.1,h4,trivial⟩
     have an:ZL fn L j=(L.drop (j*fn)).take k:=by
      unfold ZL;by_cases h:fn≤m
      ·rw[show k=fn by have:=HK.out;omega]
      ·rw[show k=m by have:=HK.out;omega,List.take_of_length_le (by omega),List.take_of_length_le (by omega)]
     have ay:=hid an;have aC:=hid ((ListH.take HX.out (k:=k) (by omega)).below (G▸HB.out));have ad:=Nat.le_trans (YE (J7 fn L j)) HN.out;rw[an]at ad;have aE:=hid ad;have aO:(k:Int)≤(cp:Int)∧(k:Int)≤(m:Int)∧0≤(k:Int):=by omega
     obtain⟨aX,aW,aV⟩:=aO;obtain⟨vs,aa,ai⟩:=HO.out;have ax:vs.length=j:=by have:=aa.1;rw[QJ]at this;omega
     rw[QJ]at aa ai;have ap:=hid ai;obtain⟨a8,n8,k8,rfl⟩:=qs aa;have az:=hid aa;have bi:j+1≤16777217:=by have:=Yl (n:=L.length) am;omega
     clear an ad aa ai;have HM:=hid hm;have X:q+1≤wr.heap.size:=by omega
     have aj:=hid (show ∀z∈(L.drop (j*fn)).take k,∀a∈z,0≤a∧a≤255 from fun z hz=>aA.out z (List.mem_of_mem_drop (List.mem_of_mem_take hz)));have a9:((L.drop (j*fn)).take k).length=k:=by rw[List.length_take];omega
     clear hm;by_cases aL:k=cp
     case pos=>
      subst aL;go_wp2_with fail
      refine(qad ((L.drop (j*fn)).take k) _ _ aC.out (by have:=aE.out;omega)).mono ?_;rintro e w2 ⟨u,rfl,I,r⟩;have Y:=Y4 (Jq aj.out) I;have af:=hid (Y.le X);have aM:=r.size;have ae:=hid (KB.of_below r X);have ag:=hid (show w2.ownsRow (q+1) 24 1 (.slice a8 n8 k8) j vs from qi az.out (fun g _ g2=>r.block g g2));obtain⟨a6,n6,k6,rfl⟩:=qs I;have J:=hid r;clear I r Y;go_wp2_with (first|((with_reducible show wpList _ _ _ (Oper.mk _ (Op.buildSlice _ _ _) _ _ _ _::_) _ _);refine QG rfl _ rfl _ _ _ rfl ?_)|(at_builtin;refine QS rfl _ _ _ rfl (q+1) 24 (by decide) ib (.slice none 0 0) 1 24 Tryz.underlying67 ar aq aF aB rfl (by decide) (.slice a8 n8 k8) j vs [.slice a6 n6 k6] _ rfl ag.out rfl rfl (by simp[Value.oneCell']) (by unfold maxLen;omega) (by omega) (by omega) ?_;intro v' w' Z D aG))
      have ba:m=k:=by omega
      have ah:(L.drop (j*fn)).drop k=L.drop ((j+1)*fn):=by
       rw[List.drop_drop,Nat.add_mul,Nat.one_mul,List.drop_eq_nil_of_le (by have:=V.out;omega),List.drop_eq_nil_of_le (by have:=V.out;have:=HK.out;omega)]
      refine⟨⟨j+1,by omega,?_,?_,HB.out.trans ((J.out.mono (by omega)).trans (D.below.mono (by omega))),(D.block q (by omega)).trans (qg av.out J.out)⟩,by simp[qd8];omega⟩
      ·rw[←ah];exact ListH.drop HX.out (by have:=HM.out;omega) (by have:=HM.out;omega) (by omega) g off rfl (.inr ⟨rfl,Nat.le_refl _⟩)
      ·rw[qbK];refine ListO.snoc (w:=w2) (vs:=vs) (x:= .slice a6 n6 k6) (fun i hi=>?_) (by rw[QJ];exact ax) (by rw[ay.out];exact af.out) (by rw[QJ];exact Z) D;rw[QJ]at hi;exact(ap.out i hi).kb ae.out
     go_wp2_with fail
     refine(qad ((L.drop (j*fn)).take k) _ _ aC.out (by have:=aE.out;omega)).mono ?_;rintro e w2 ⟨u,rfl,I,r⟩;have Y:=Y4 (Jq aj.out) I;have af:=hid (Y.le X);have aM:=r.size;have ae:=hid (KB.of_below r X);have ag:=hid (show w2.ownsRow (q+1) 24 1 (.slice a8 n8 k8) j vs from qi az.out (fun g _ g2=>r.block g g2));obtain⟨a6,n6,k6,rfl⟩:=qs I;have J:=hid r;clear I r Y;go_wp2_with (first|((with_reducible show wpList _ _ _ (Oper.mk _ (Op.buildSlice _ _ _) _ _ _ _::_) _ _);refine QG rfl _ rfl _ _ _ rfl ?_)|(at_builtin;refine QS rfl _ _ _ rfl (q+1) 24 (by decide) ib (.slice none 0 0) 1 24 Tryz.underlying67 ar aq aF aB rfl (by decide) (.slice a8 n8 k8) j vs [.slice a6 n6 k6] _ rfl ag.out rfl rfl (by simp[Value.oneCell']) (by unfold maxLen;omega) (by omega) (by omega) ?_;intro v' w' Z D aG))
     have ah:(L.drop (j*fn)).drop k=L.drop ((j+1)*fn):=by
      rw[List.drop_drop,Nat.add_mul,Nat.one_mul];by_cases h:fn≤m
      ·rw[show k=fn by have:=HK.out;omega]
      ·rw[List.drop_eq_nil_of_le (by have:=V.out;have:=HK.out;omega),List.drop_eq_nil_of_le (by have:=V.out;have:=HK.out;omega)]
     refine⟨⟨j+1,by omega,?_,?_,HB.out.trans ((J.out.mono (by omega)).trans (D.below.mono (by omega))),(D.block q (by omega)).trans (qg av.out J.out)⟩,by simp[qd8];omega⟩
     ·rw[←ah];exact ListH.drop HX.out (by have:=HM.out;omega) (by have:=HM.out;omega) (by omega) g off rfl (.inl rfl)
     ·rw[qbK];refine ListO.snoc (w:=w2) (vs:=vs) (x:= .slice a6 n6 k6) (fun i hi=>?_) (by rw[QJ];exact ax) (by rw[ay.out];exact af.out) (by rw[QJ];exact Z) D;rw[QJ]at hi;exact(ap.out i hi).kb ae.out
    have aQ:m=0:=by omega
    have a3:qR L.length fn≤j:=Nat.le_of_not_lt fun h=>by
     have:=(ZA am).1 h
     have:=V.out
     omega
    obtain rfl:j=qR L.length fn:=by omega
    subst aQ;clear hm;have aR:=hid (HO.out.le (show q≤q+1 by omega));go_wp2
    go_ret2
    exact⟨_,rfl,by rw[G,aH.out];exact aR.out,by rw[G];exact HB.out⟩
theorem qi0 (t:TreeV)(h:t.validE=0)(hl:0≤t.l∧t.l≤4294967295)(zs:List Int)(v:Value)(w:World)(hv:Hold w v zs)(hn:zs.length≤16777216):
  Calls Tryz.prog 108 #[t.val,v] w fun e w'=> ∃u,e= .returned u∧ListO w.heap.size w' u (yV t.ln zs)∧Below w.heap.size w w':=by
 obtain⟨I,V⟩:=Ex w.heap.size;have aG:=qo h;have aS:t.l≠0:=aG.2.2.2.2.2.2.2.2.1;have aP:(t.ln:Int)=t.l:=by unfold TreeV.ln;omega
 have ar:1≤t.ln:=by omega
 have aZ:(t.ln:Int)≤4294967295:=by omega
 generalize t.ln=ln at*;obtain⟨k,d,f,p,l,i,ka,kl,kc,sa,sl,sc,pa,pl,pc⟩:=t;unfold TreeV.val;simp only at*
 clear aG h hl aS;subst aP;obtain⟨ib,az,ay,aL,aH⟩:=info_parts yH;obtain⟨i0,hi,aQ,am,aO⟩:=info_parts Qr;have HV:=hid hv;obtain⟨a,a6,rfl,ba,bc⟩:=hv.slice;clear hv;have aI:Below I w (w.alloc (.cells #[.int .i64 k,.int .i64 d,.int .i64 f,.int .i64 p,.int .u32 (ln:Int),.int .i64 i,.slice ka kl kc,.slice sa sl sc,.slice pa pl pc] 26)):=by rw[←V];exact Br.alloc Nl _
 have aj:=Wn w (.cells #[.int .i64 k,.int .i64 d,.int .i64 f,.int .i64 p,.int .u32 (ln:Int),.int .i64 i,.slice ka kl kc,.slice sa sl sc,.slice pa pl pc] 26);rw[V]at aj;go_enter Tryz.func108,Tryz.ntmps108
 go_upto_region 1 with(fail)
 generalize w.alloc (.cells #[.int .i64 k,.int .i64 d,.int .i64 f,.int .i64 p,.int .u32 (ln:Int),.int .i64 i,.slice ka kl kc,.slice sa sl sc,.slice pa pl pc] 26)=wA at*;have c4:wA.cell? ⟨I,4,none⟩=some (.int .u32 (ln:Int)):=qd aj 4;have bk:I<wA.heap.size:=(Ai aj).1;have aK:=hid aI;clear aj aI;by_cases h0:zs=[]
 case pos=>
  subst h0;have HR:=hid (qcC (B:=I) (w:=wA) (x:= .slice none 0 0) (z:=[]) ⟨fun _ h=>by simp at h,.inl ⟨rfl,rfl⟩⟩ (by omega));have HB:=hid (aK.out.alloc (show I≤wA.heap.size by omega) (.cells #[.slice none 0 0] 24));go_wp2_with ((with_reducible show wpList _ _ _ (Oper.mk _ (Op.buildSlice _ _ _) _ _ _ _::_) _ _);refine QG rfl _ rfl _ _ _ rfl ?_)
  go_ret
  exact⟨_,rfl,by rw[V];exact HR.out,by rw[V];exact HB.out⟩
 have bh:0<zs.length:=List.length_pos_iff.2 h0;have aB:yV ln zs=z9 ln zs (qR zs.length ln):=if_neg h0;have aX:=hid aB;have aY:((zs.length:Int)==0)=false:=beq_eq_false_iff_ne.2 (by omega);clear h0 aB;go_wp2_with fail
 go_loopw [1,5] (fun x s wr=> ∃j:Nat,j≤qR zs.length ln∧Hold w x (zs.drop (j*ln))∧ListO I wr s (z9 ln zs j)∧Below I w wr) (fun x _ _=>qd8 x)
 case atStart=>exact⟨0,Nat.zero_le _,by rw[Nat.zero_mul];exact HV.out,ListO.nil _ _,aK.out⟩
 case round=>
  obtain⟨j,hj,hx,ho,hb⟩:=hrel;obtain⟨a1,cp,rfl,aT,bb⟩:=id hx.slice;have HX:=hid hx;have HO:=hid ho;have HB:=hid hb;have av:(zs.drop (j*ln)).length=zs.length - j*ln:=by simp
  obtain⟨m,hm⟩:=Ex ((zs.drop (j*ln)).length);rw[hm]at aT av⊢;have X:=hid av;have Z:I≤wr.heap.size:=by have:=hb.size;omega
  clear hx ho hb av;by_cases a7:0<m
  case pos=>
   have be:j<qR zs.length ln:=(ZA ar).2 (by have:=X.out;omega);obtain⟨k,hk⟩:=Ex (min ln m);have HK:=hid hk;have bd:m≤16777216:=by have:=X.out;omega
   have bf:1≤k∧k≤m∧k≤cp:=by omega
   have bg:min (ln:Int) (m:Int)=(k:Int):=by omega
   have bi:0<(m:Int):=by omega
   obtain⟨g,off,rfl⟩:=qag HX.out (by rintro e;rw[e]at hm;simp at hm;omega);have aM:ZL ln zs j=(zs.drop (j*ln)).take k:=by
    unfold ZL;by_cases h:ln≤m
    ·rw[show k=ln by have:=HK.out;omega]
    ·rw[show k=m by have:=HK.out;omega,List.take_of_length_le (by omega),List.take_of_length_le (by omega)]
   have aD:=hid aM;have aF:((zs.drop (j*ln)).take k).length=k:=by rw[List.length_take];omega
   have q:=hid aF;have ax:=hid ((HX.out.below (V▸HB.out)).src);have HZ:=hid (show ∀z∈(zs.drop (j*ln)).take k,0≤z∧z≤255 from fun z hz=>HX.out.1 z (List.mem_of_mem_take hz));obtain⟨vs,ab,ao⟩:=HO.out;have aC:vs.length=j:=by have:=ab.1;rw[Qu]at this;omega
   rw[Qu]at ab ao;have aw:=hid ao;obtain⟨a8,n8,k8,rfl⟩:=qs ab;have aE:=hid ab;have bj:j+1≤16777217:=by have:=Yl (n:=zs.length) ar;omega
   have aV:(k:Int)≤(cp:Int)∧(k:Int)≤(m:Int)∧0≤(k:Int):=by omega
   obtain⟨a5,a4,a3⟩:=aV;have HM:=hid hm;have aq:=fun W:World=>run_make (P:=Tryz.prog) W 24 5 i0 (.int .u8 0) Tryz.underlying24 hi aQ .i64 .i64 k k (by omega) (by omega) (by rw[aO];omega) (by omega)
   simp only[am]at aq;have aJ:madeCells #[.int .u8 0] k=(List.replicate k (.int .u8 0)).toArray:=by
    apply Array.toList_inj.1
    rw[toList_madeCells_one]
   have aA:=hid aJ;clear hk aM aF ab ao hm aJ;by_cases aR:k=cp
   case pos=>
    subst aR;go_upto_region 8 with(fail)
    obtain⟨G,D⟩:=Ex wr.heap.size;have ac:(wr.alloc (.cells (madeCells #[.int .u8 0] k) 5)).heap[G]? =some (.cells (List.replicate k (.int .u8 0)).toArray 5 (0,0)):=by rw[←aA.out,←D];exact Wn _ _
    have O:Below G wr (wr.alloc (.cells (madeCells #[.int .u8 0] k) 5)):=by rw[←D];exact Br.alloc Nl _
    rw[D];generalize wr.alloc (.cells (madeCells #[.int .u8 0] k) 5)=w3 at*;have af:=ax.out.below (D▸O);have ag: ∀(i:Nat) (v:Value),(((zs.drop (j*ln)).take k).map qt)[i]? =some v→w3.cell? ((⟨g,off,none⟩:Addr).add i)=some v:=fun i v r=>by
     rcases af.2.2 with⟨e, -⟩|⟨ad,c,e,h2⟩
     ·cases e
     ·simp only[Value.slice.injEq,Option.some.injEq]at e;obtain⟨rfl, -, -⟩:=e;refine h2 i v ?_;rw[List.getElem?_map]at r⊢;by_cases ae:i<k
      ·rw[List.getElem?_take,if_pos ae]at r;exact r
      ·rw[List.getElem?_take,if_neg ae]at r;cases r
    clear aq;go_upto_region 9 with((with_reducible show wpList _ _ _ (Oper.mk (some 27) _ _ _ _ _::_) _ _);refine wpList_copy_splice rfl _ _ _ _ rfl 5 Tryz.underlying24 (by rw[hi];simp[am]) _ _ _ _ _ _ rfl rfl G 0 (List.replicate k (.int .u8 0)) 5 ac (((zs.drop (j*ln)).take k).map qt) (by rw[List.length_map,q.out];exact(Nat.min_eq_right (by omega)).symm) (fun _=>⟨rfl,⟨g,off,none⟩,rfl,ag⟩) (by rw[List.length_map,q.out,List.length_replicate];omega) (fun u hu=>by obtain⟨z, -,rfl⟩:=List.mem_map.1 hu;rfl) G wr O Nl ?_;intro Y ah ai)
    have J:splice (List.replicate k (.int .u8 0)) 0 (((zs.drop (j*ln)).take k).map qt)=((zs.drop (j*ln)).take k).map qt:=by
     have:=q.out
     simp only[splice,List.take_zero,List.nil_append,List.length_map,this,Nat.zero_add,List.drop_replicate,Nat.sub_self,List.replicate_zero,List.append_nil]
    have ak:=hid (show OwnB I Y (.slice (some ⟨G,0,none⟩) k k) ((zs.drop (j*ln)).take k) from Y4 HZ.out ⟨by rw[List.length_map,q.out,Nat.mul_one],.inr ⟨G,k,_,rfl,by omega,ah.out,Nat.le_refl _,by unfold maxLen;omega,by rw[J,List.size_toArray,List.length_map,q.out,Nat.mul_one],by rw[J,List.toList_toArray,List.take_of_length_le (by rw[List.length_map,q.out,Nat.mul_one];omega)]⟩⟩);have o:Below wr.heap.size wr Y:=D▸ai;have ap:=hid (KB.of_below o Z);have au:=hid o;have al:=hid (show Y.ownsRow I 24 1 (.slice a8 n8 k8) j vs from qi aE.out (fun g _ g2=>o.block g g2));have aU:=o.size;clear J af ag ah ai o ac O;go_wp2_with (first|((with_reducible show wpList _ _ _ (Oper.mk _ (Op.buildSlice _ _ _) _ _ _ _::_) _ _);refine QG rfl _ rfl _ _ _ rfl ?_)|(at_builtin;refine QS rfl _ _ _ rfl I 24 (by decide) ib (.slice none 0 0) 1 24 Tryz.underlying67 az ay aL aH rfl (by decide) (.slice a8 n8 k8) j vs [.slice (some ⟨G,0,none⟩) k k] _ rfl al.out rfl rfl (by simp[Value.oneCell']) (by unfold maxLen;omega) (by omega) (by omega) ?_;intro v' w' aa U aN))
    have an:(zs.drop (j*ln)).drop k=zs.drop ((j+1)*ln):=by
     rw[List.drop_drop,Nat.add_mul,Nat.one_mul];by_cases h:ln≤m
     ·rw[show k=ln by have:=HK.out;omega]
     ·rw[List.drop_eq_nil_of_le (by have:=X.out;have:=HK.out;omega),List.drop_eq_nil_of_le (by have:=X.out;have:=HK.out;omega)]
    refine⟨⟨j+1,by omega,?_,?_,HB.out.trans ((au.out.mono Z).trans U.below)⟩,by simp[qd8];omega⟩
    ·rw[←an];exact jI HX.out (by have:=HM.out;omega) (by have:=HM.out;omega) (by omega) g off rfl (.inr ⟨rfl,rfl⟩)
    ·rw[qay];refine ListO.snoc (w:=Y) (vs:=vs) (x:= .slice (some ⟨G,0,none⟩) k k) (fun i hi=>?_) (by rw[Qu];exact aC) (by rw[aD.out];exact ak.out) (by rw[Qu];exact aa) U;rw[Qu]at hi;exact(aw.out i hi).kb ap.out
   go_upto_region 8 with(fail)
   obtain⟨G,D⟩:=Ex wr.heap.size;have ac:(wr.alloc (.cells (madeCells #[.int .u8 0] k) 5)).heap[G]? =some (.cells (List.replicate k (.int .u8 0)).toArray 5 (0,0)):=by rw[←aA.out,←D];exact Wn _ _
   have O:Below G wr (wr.alloc (.cells (madeCells #[.int .u8 0] k) 5)):=by rw[←D];exact Br.alloc Nl _
   rw[D];generalize wr.alloc (.cells (madeCells #[.int .u8 0] k) 5)=w3 at*;have af:=ax.out.below (D▸O);have ag: ∀(i:Nat) (v:Value),(((zs.drop (j*ln)).take k).map qt)[i]? =some v→w3.cell? ((⟨g,off,none⟩:Addr).add i)=some v:=fun i v r=>by
    rcases af.2.2 with⟨e, -⟩|⟨ad,c,e,h2⟩
    ·cases e
    ·simp only[Value.slice.injEq,Option.some.injEq]at e;obtain⟨rfl, -, -⟩:=e;refine h2 i v ?_;rw[List.getElem?_map]at r⊢;by_cases ae:i<k
     ·rw[List.getElem?_take,if_pos ae]at r;exact r
     ·rw[List.getElem?_take,if_neg ae]at r;cases r
   clear aq;go_upto_region 9 with((with_reducible show wpList _ _ _ (Oper.mk (some 27) _ _ _ _ _::_) _ _);refine wpList_copy_splice rfl _ _ _ _ rfl 5 Tryz.underlying24 (by rw[hi];simp[am]) _ _ _ _ _ _ rfl rfl G 0 (List.replicate k (.int .u8 0)) 5 ac (((zs.drop (j*ln)).take k).map qt) (by rw[List.length_map,q.out];exact(Nat.min_eq_right (by omega)).symm) (fun _=>⟨rfl,⟨g,off,none⟩,rfl,ag⟩) (by rw[List.length_map,q.out,List.length_replicate];omega) (fun u hu=>by obtain⟨z, -,rfl⟩:=List.mem_map.1 hu;rfl) G wr O Nl ?_;intro Y ah ai)
   have J:splice (List.replicate k (.int .u8 0)) 0 (((zs.drop (j*ln)).take k).map qt)=((zs.drop (j*ln)).take k).map qt:=by
    have:=q.out
    simp only[splice,List.take_zero,List.nil_append,List.length_map,this,Nat.zero_add,List.drop_replicate,Nat.sub_self,List.replicate_zero,List.append_nil]
   have ak:=hid (show OwnB I Y (.slice (some ⟨G,0,none⟩) k k) ((zs.drop (j*ln)).take k) from Y4 HZ.out ⟨by rw[List.length_map,q.out,Nat.mul_one],.inr ⟨G,k,_,rfl,by omega,ah.out,Nat.le_refl _,by unfold maxLen;omega,by rw[J,List.size_toArray,List.length_map,q.out,Nat.mul_one],by rw[J,List.toList_toArray,List.take_of_length_le (by rw[List.length_map,q.out,Nat.mul_one];omega)]⟩⟩);have o:Below wr.heap.size wr Y:=D▸ai;have ap:=hid (KB.of_below o Z);have au:=hid o;have al:=hid (show Y.ownsRow I 24 1 (.slice a8 n8 k8) j vs from qi aE.out (fun g _ g2=>o.block g g2));have aU:=o.size;clear J af ag ah ai o ac O;go_wp2_with (first|((with_reducible show wpList _ _ _ (Oper.mk _ (Op.buildSlice _ _ _) _ _ _ _::_) _ _);refine QG rfl _ rfl _ _ _ rfl ?_)|(at_builtin;refine QS rfl _ _ _ rfl I 24 (by decide) ib (.slice none 0 0) 1 24 Tryz.underlying67 az ay aL aH rfl (by decide) (.slice a8 n8 k8) j vs [.slice (some ⟨G,0,none⟩) k k] _ rfl al.out rfl rfl (by simp[Value.oneCell']) (by unfold maxLen;omega) (by omega) (by omega) ?_;intro v' w' aa U aN))
   have an:(zs.drop (j*ln)).drop k=zs.drop ((j+1)*ln):=by
    rw[List.drop_drop,Nat.add_mul,Nat.one_mul];by_cases h:ln≤m
    ·rw[show k=ln by have:=HK.out;omega]
    ·rw[List.drop_eq_nil_of_le (by have:=X.out;have:=HK.out;omega),List.drop_eq_nil_of_le (by have:=X.out;have:=HK.out;omega)]
   refine⟨⟨j+1,by omega,?_,?_,HB.out.trans ((au.out.mono Z).trans U.below)⟩,by simp[qd8];omega⟩
   ·rw[←an];exact jI HX.out (by have:=HM.out;omega) (by have:=HM.out;omega) (by omega) g off rfl (.inl rfl)
   ·rw[qay];refine ListO.snoc (w:=Y) (vs:=vs) (x:= .slice (some ⟨G,0,none⟩) k k) (fun i hi=>?_) (by rw[Qu];exact aC) (by rw[aD.out];exact ak.out) (by rw[Qu];exact aa) U;rw[Qu]at hi;exact(aw.out i hi).kb ap.out
  have aW:m=0:=by omega
  have a9:qR zs.length ln≤j:=Nat.le_of_not_lt fun h=>by
   have:=(ZA ar).1 h
   have:=X.out
   omega
  obtain rfl:j=qR zs.length ln:=by omega
  subst aW;clear hm;go_wp2
  go_ret
  exact⟨_,rfl,by rw[V,aX.out];exact HO.out,by rw[V];exact HB.out⟩
end Go.Proofs.YthjoojnlnlmljaaGreat
