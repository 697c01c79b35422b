/- A block of parameters out of its numbers, by the program. No condition. -/
import Derived.Test.YthjoojnlnlmljaaGreatG22
import Derived.Test.YthjoojnlnlmljaaGreatG16
import Derived.Test.YthjoojnlnlmljaaGreatG23
import Derived.Test.YthjoojnlnlmljaaGreatG21
import Derived.Test.YthjoojnlnlmljaaGreatG20
import Derived.Test.YthjoojnlnlmljaaGreatG04
set_option linter.all false
set_option maxRecDepth 100000
set_option maxHeartbeats 8000000
namespace Go.Proofs.YthjoojnlnlmljaaGreat
open Go.ChangeShapes Go.WideShapes Go.ChangeAt Go.RowKit Go.Joins Go.Shelf Go.Maps
open Go.Lib (hid)
attribute [local go_sem] Oper.semAt_some
theorem qgU {big:Bool}{v:Nat→Nat}(D:ParOk big v)(a1 a2:Option Addr){q o:Nat}(c1 c2:Nat)(I:q≤sB big)(G:o≤sB big)(w:World):
  Calls Tryz.prog 130 #[.int .i64 (kB big),parN v (.slice a1 q c1) (.slice a2 o c2)] w fun e w'=>e= .returned (.int .i64 0)∧Below w.heap.size w w':=by
 unfold parN;rw[D.x0];exact qbF big _ _ _ _ _ _ _ _ a1 a2 q o c1 c2 w D.p I G
theorem qgR (big:Bool)(v:Nat→Nat)(z1 z2:List Int)(sa pe:Value)(w:World)(hP:ParOk big v)(h1:Hold w sa z1)(h2:Hold w pe z2)(X:z1.length≤sB big)(V:z2.length≤sB big):
  Calls Tryz.prog 100 #[.int .i64 (kB big),parN v sa pe] w fun e w'=>(∃r,e= .returned (.tuple #[r,.int .i64 0])∧w'.ownsRow w.heap.size 5 1 r (mB big) ((QR big v z1 z2).map qt))∧Below w.heap.size w w':=by
 obtain⟨a1,c1,rfl,bx,bM⟩:=h1.slice;obtain⟨a2,c2,rfl,bO,bD⟩:=h2.slice;obtain⟨i0,hi,bG,aP,bI⟩:=info_parts QD;obtain⟨o,al⟩:=Ex w.heap.size;have aH:=hid (qgU hP a1 a2 c1 c2 X V);have aZ:Below o w (w.alloc (.cells #[.int .i64 (v 1:Nat),.int .i64 (v 2:Nat),.int .i64 (v 3:Nat),.int .i64 (v 4:Nat),.int .u32 (v 5:Nat),.int .u64 (v 6:Nat),.int .u32 (v 7:Nat),.int .i64 (v 8:Nat),.int .i64 (v 9:Nat),.slice a1 z1.length c1,.slice a2 z2.length c2] 171)):=by rw[←al];exact Br.alloc Nl _
 have ag:=Wn w (.cells #[.int .i64 (v 1:Nat),.int .i64 (v 2:Nat),.int .i64 (v 3:Nat),.int .i64 (v 4:Nat),.int .u32 (v 5:Nat),.int .u64 (v 6:Nat),.int .u32 (v 7:Nat),.int .i64 (v 8:Nat),.int .i64 (v 9:Nat),.slice a1 z1.length c1,.slice a2 z2.length c2] 171);rw[al]at ag;have bN:=hid h1;have bL:=hid h2;have az:=hid hP;have ay:=hid X;have av:=hid V;clear hP h1 h2 X V bx bM bO bD;unfold parN yT;unfold parN yT at aH;go_enter Tryz.func100,Tryz.ntmps100
 go_upto_region 1 with(fail)
 generalize w.alloc (.cells #[.int .i64 (v 1:Nat),.int .i64 (v 2:Nat),.int .i64 (v 3:Nat),.int .i64 (v 4:Nat),.int .u32 (v 5:Nat),.int .u64 (v 6:Nat),.int .u32 (v 7:Nat),.int .i64 (v 8:Nat),.int .i64 (v 9:Nat),.slice a1 z1.length c1,.slice a2 z2.length c2] 171)=wA at*;go_wp2_with ((with_reducible show wpList _ _ _ (Oper.mk _ (Op.load 171 _) _ _ _ _::_) _ _);refine wpList_load_row rfl 171 _ rfl o rfl _ _ _ _ ag Tryz.underlying171 rfl (by kernel_rfl) ?_)
 refine(aH.out wA).mono ?_;rintro e w1 ⟨rfl,ax⟩;have aV:=qg ag ax;have ai:=ax.size;have br:o<wA.heap.size:=(Ai ag).1;have bS:o<w1.heap.size:=by omega
 have bb:=hid aV;have aS:=hid (show Below o w w1 from aZ.trans (ax.mono (by omega)));clear ax aZ ag aV ai br aH;go_wp2_with fail
 refine(ZK big _).mono ?_;rintro e w2 ⟨rfl,hw⟩;rw[hw];clear hw w2;obtain⟨M,hM⟩:=Ex (mB big);obtain⟨S,hS⟩:=Ex (sB big);have bQ:4*S=M:=by rw[←hM,←hS];cases big<;>rfl
 have bu:8≤S∧S≤16:=by rw[←hS];cases big<;>decide
 rw[hM,hS];have aT:=fun W:World=>run_make (P:=Tryz.prog) W 24 5 i0 (.int .u8 0) Tryz.underlying24 hi bG .i64 .i64 M M (by omega) (by omega) (by rw[bI];omega) (by omega)
 simp only[aP]at aT;go_wp2_with fail
 obtain⟨g,hg⟩:=Ex w1.heap.size;have bj:madeCells #[.int .u8 0] M=((List.replicate M (0:Int)).map qt).toArray:=by
  apply Array.toList_inj.1
  rw[toList_madeCells_one];simp[qt]
 have a6:RowB (w1.alloc (.cells (madeCells #[.int .u8 0] M) 5)) g (Qz big (v 7==0) v 0):=by
  unfold RowB;rw[bj,←hg,←hM];exact Wn _ _
 have aY:Below o w (w1.alloc (.cells (madeCells #[.int .u8 0] M) 5)):=aS.out.alloc (by omega) _;have be:(w1.alloc (.cells (madeCells #[.int .u8 0] M) 5)).heap[o]? =some (.cells #[.int .i64 (v 1:Nat),.int .i64 (v 2:Nat),.int .i64 (v 3:Nat),.int .i64 (v 4:Nat),.int .u32 (v 5:Nat),.int .u64 (v 6:Nat),.int .u32 (v 7:Nat),.int .i64 (v 8:Nat),.int .i64 (v 9:Nat),.slice a1 z1.length c1,.slice a2 z2.length c2] 171 (0,0)):=by
  rw[Bh _ _ _ (by omega)];exact bb.out
 have bC:(w1.alloc (.cells (madeCells #[.int .u8 0] M) 5)).heap.size=g+1:=by simp[hg]
 rw[hg];generalize w1.alloc (.cells (madeCells #[.int .u8 0] M) 5)=w5 at*;refine(qhd big _).mono ?_;rintro e w6 ⟨⟨rb,rfl,b5,aR⟩,ah⟩;have b7:=ah.size;have bz:=hid (show RowB w6 g (Qz big (v 7==0) v 0) from(ah.block g (by omega)).trans a6);have bH:=hid ((ah.block o (by omega)).trans be);have bE:=hid (show Below o w w6 from aY.trans (ah.mono (by omega)));obtain⟨aX,aq,aa⟩:=aR;have bT:rb<w6.heap.size:=(Ai aq).1;have bm:=hid aq;have bp:=hid aa;have cc:o<g∧g<rb:=by omega
 clear a6 be aY ah aq aa bj aT bb aS bC;go_wp2_with fail
 go_loopw [30] (fun i wr=> ∃k:Nat,i= .int .i64 (k:Nat)∧k≤9∧RowB wr g (Qz big (v 7==0) v k)∧But g w6 wr) (fun i _=>9 - (intOf i).toNat)
 case atStart=>exact⟨0,rfl,by omega,bz.out,But.refl _ _⟩
 case round=>
  obtain⟨k,rfl,hk,aa,hb⟩:=hrel;have HW:=hid aa;have HB:=hid hb;have bA:=hb.size;have ae:=QP big (v 7==0) v k hk;have ar:wr.heap[o]? =some (.cells #[.int .i64 (v 1:Nat),.int .i64 (v 2:Nat),.int .i64 (v 3:Nat),.int .i64 (v 4:Nat),.int .u32 (v 5:Nat),.int .u64 (v 6:Nat),.int .u32 (v 7:Nat),.int .i64 (v 8:Nat),.int .i64 (v 9:Nat),.slice a1 z1.length c1,.slice a2 z2.length c2] 171 (0,0)):=(hb.block o (by omega) (by omega)).trans bH.out;by_cases a5:k<9
  case pos=>
   obtain⟨nm,af,q0,q1,q2,q3,q4,q5,q6⟩:=bp.out k a5;have ba:=hid ((hb.block rb (by omega) (by omega)).trans bm.out);have HQ:=hid (show ∀j,j<5→aX[k*5+j]? =(#[.int .i64 ((k+1:Nat):Int),.int .i64 (atB big (k+1):Nat),.int .i64 (szB big (k+1):Nat),nm,af]:Array Value)[j]? from fun j hj=>by
    rcases(show j=0∨j=1∨j=2∨j=3∨j=4 by omega)with rfl|rfl|rfl|rfl|rfl
    ·exact q0
    ·exact q1
    ·exact q2
    ·exact q3
    ·exact q4)
   have H1:=hid (show(#[.int .i64 ((k+1:Nat):Int),.int .i64 (atB big (k+1):Nat),.int .i64 (szB big (k+1):Nat),nm,af]:Array Value).all (·.oneCell')=true by simp only[List.all_toArray,List.all_cons,List.all_nil,q5,q6];rfl);have ce:(k:Int)<9:=by omega
   have aj:=hid ar;clear q0 q1 q2 q3 q4 q5 q6 aa hb ar;go_upto_region 9 with(first|((with_reducible show wpList _ _ _ (Oper.mk _ (Op.load 219 _) _ _ _ _::_) _ _);refine wpList_plain rfl fun K hK=>qX 219 _ rfl rb (k*5) (by kernel_rfl) 219 aX #[.int .i64 ((k+1:Nat):Int),.int .i64 (atB big (k+1):Nat),.int .i64 (szB big (k+1):Nat),nm,af] (0,0) _ ba.out Tryz.underlying219 rfl (by kernel_rfl) HQ.out (hK _ _ ?_))|((with_reducible show wpList _ _ _ (Oper.mk none (Op.store 219 _ _) _ _ _ _::_) _ _);refine wpList_store_row rfl 219 _ _ rfl wr.heap.size #[.int .i64 ((k+1:Nat):Int),.int .i64 (atB big (k+1):Nat),.int .i64 (szB big (k+1):Nat),nm,af] rfl rfl 219 _ (Wn _ _) (by kernel_rfl) rfl H1.out ?_))
   refine qm ?_;intro Wq aA;obtain⟨q,hq⟩:=Ex wr.heap.size;have au:Wq.heap[q]? =some (.cells #[.int .i64 ((k+1:Nat):Int),.int .i64 (atB big (k+1):Nat),.int .i64 (szB big (k+1):Nat),nm,af] 219 (0,0)):=by rw[aA,←hq];exact setRow_heap _ _ _ _ _ _ (Wn _ _)
   have ab:Below q wr Wq:=by rw[aA,←hq];exact below_setRow (Br.alloc Nl _) Nl _
   rw[hq];have cb:g<q∧o<q:=by omega
   have bg:But g w6 Wq:=HB.out.trans ⟨ab.os,ab.tape,ab.output,ab.size,fun j hj _=>ab.block j (by omega)⟩;have aM:=hid (show RowB Wq g (Qz big (v 7==0) v k) from(ab.block g (by omega)).trans HW.out);have aI:=hid ((ab.block o (by omega)).trans aj.out);have aO:=hid au;have aC:=hid bg;have bv:q<Wq.heap.size:=(Ai au).1;have c0:Wq.cell? ⟨q,0,none⟩=some (.int .i64 ((k+1:Nat):Int)):=qd au 0;clear aA hq ba HQ H1 HW HB aj au ab bg;by_cases h7:k=6
   case pos=>
    subst h7;have c6:Wq.cell? ⟨o,6,none⟩=some (.int .u32 (v 7:Nat)):=qd aI.out 6;have bV:o<Wq.heap.size:=by omega
    have b8:((v 7:Int)==0)=true:=by rw[az.out.x0];rfl
    go_wp2
    refine⟨⟨7,rfl,by omega,?_,aC.out⟩,by simp[intOf]⟩;have e:Qz big (v 7==0) v 7=Qz big (v 7==0) v 6:=by rw[Qz,if_pos ⟨rfl,by rw[az.out.x0];rfl⟩]
    rw[e];exact aM.out
   have h8: ¬((k:Int)=6):=by omega
   have bs:szB big (k+1)≤8∧atB big (k+1)+szB big (k+1)≤M:=by
    rw[←hM];rcases(show k=0∨k=1∨k=2∨k=3∨k=4∨k=5∨k=6∨k=7∨k=8 by omega)with rfl|rfl|rfl|rfl|rfl|rfl|rfl|rfl|rfl<;>cases big<;>decide
   have bf:=hid bs;go_upto_region 10 with(fail)
   refine qD (n:=9) (w0:=Wq) (B:=Wq.heap.size) [.v 42 (.slice (some ⟨g,0,none⟩) M M),.v 43 (.pointer (some ⟨q,1,none⟩)),.v 44 (.int .i64 (atB big (k+1):Nat)),.v 45 (.pointer (some ⟨q,2,none⟩)),.v 46 (.int .i64 (szB big (k+1):Nat)),.v 47 (.agg #[.int .i64 (v 1:Nat),.int .i64 (v 2:Nat),.int .i64 (v 3:Nat),.int .i64 (v 4:Nat),.int .u32 (v 5:Nat),.int .u64 (v 6:Nat),.int .u32 (v 7:Nat),.int .i64 (v 8:Nat),.int .i64 (v 9:Nat),.slice a1 z1.length c1,.slice a2 z2.length c2]),.v 48 (.pointer (some ⟨q,0,none⟩)),.v 49 (.int .i64 ((k+1:Nat):Int)),.v 50 (.int .u64 (v (k+1):Nat))] trivial Br.drew Nl ?_ ?_
   ·repeat' (with_reducible first|exact qz|refine qx ?_ ?_)
    all_goals try
     intro A x W J G U I D K hK;have am:=J.2 10 (by decide);conv at am=>rhs;whnf
     have bP:=J.2 12 (by decide);conv at bP=>rhs;whnf
     simp only[QN,QV]at D;clear I J;have y:=qg aO.out G;have y0:W.cell? ⟨q,0,none⟩=some (.int .i64 ((k+1:Nat):Int)):=qd y 0;have y1:W.cell? ⟨q,1,none⟩=some (.int .i64 (atB big (k+1):Nat)):=qd y 1;have y2:W.cell? ⟨q,2,none⟩=some (.int .i64 (szB big (k+1):Nat)):=qd y 2;have y3:q<W.heap.size:=by omega
     go_simp
     exact hK _ _ BR rfl
    ·intro A x W J G U I _ K hK;have a3:=J.2 3 (by decide);conv at a3=>rhs;whnf
     clear I J;exact qX 171 _ rfl o 0 a3 171 #[.int .i64 (v 1:Nat),.int .i64 (v 2:Nat),.int .i64 (v 3:Nat),.int .i64 (v 4:Nat),.int .u32 (v 5:Nat),.int .u64 (v 6:Nat),.int .u32 (v 7:Nat),.int .i64 (v 8:Nat),.int .i64 (v 9:Nat),.slice a1 z1.length c1,.slice a2 z2.length c2] #[.int .i64 (v 1:Nat),.int .i64 (v 2:Nat),.int .i64 (v 3:Nat),.int .i64 (v 4:Nat),.int .u32 (v 5:Nat),.int .u64 (v 6:Nat),.int .u32 (v 7:Nat),.int .i64 (v 8:Nat),.int .i64 (v 9:Nat),.slice a1 z1.length c1,.slice a2 z2.length c2] (0,0) _ (qg aI.out G) Tryz.underlying171 rfl (by kernel_rfl) (fun j _=>by rw[Nat.zero_add]) (hK _ _ BR rfl)
    ·intro A x W J G U I _ K hK;have b3:=gv J I 5 47;have b9:=gv J I 7 49;clear I J;go_simp
     refine(show Calls Tryz.prog 136 #[.agg #[.int .i64 (v 1:Nat),.int .i64 (v 2:Nat),.int .i64 (v 3:Nat),.int .i64 (v 4:Nat),.int .u32 (v 5:Nat),.int .u64 (v 6:Nat),.int .u32 (v 7:Nat),.int .i64 (v 8:Nat),.int .i64 (v 9:Nat),.slice a1 z1.length c1,.slice a2 z2.length c2],.int .i64 ((k+1:Nat):Int)] W _ from qg1 az.out (.slice a1 z1.length c1) (.slice a2 z2.length c2) (k+1) (by omega) (by omega) W).mono ?_;rintro r w3 ⟨rfl,aG⟩
     exact hK _ _ aG rfl
   intro x W G U ac;clear ac;refine qp ?_;simp only[QA,Act.put,Ls];have bF:=hid (show RowB W g (Qz big (v 7==0) v k) from(G.block g (by omega)).trans aM.out);have bw:=hid (show But g w6 W from aC.out.trans ⟨G.os,G.tape,G.output,G.size,fun j hj _=>G.block j (by omega)⟩);clear c0 G U aM aI aO aC bv;go_wp2_with fail
   refine(qiT (Qz big (v 7==0) v k) g M M (atB big (k+1)) (szB big (k+1)) bf.out.1 (by rw[ae,hM];exact bf.out.2) (by rw[ae,hM]) Nl (by omega) (v (k+1)) (az.out.le (k+1) (by omega) (by omega)) W bF.out).mono ?_;rintro r w4 ⟨rfl,X,V⟩;have ay:=hid X;have av:=hid V;clear X V;go_wp2_with fail
   refine qv ?_;go_wp2
   refine⟨⟨k+1,rfl,by omega,?_,bw.out.trans av.out⟩,by simp[intOf];omega⟩;have e:Qz big (v 7==0) v (k+1)=Qi (Qz big (v 7==0) v k) (atB big (k+1)) (Qg (v (k+1)) (szB big (k+1))):=by rw[Qz,if_neg (fun h=>h7 (by omega))]
   rw[e];exact ay.out
  obtain rfl:k=9:=by omega
  clear a5 hk;have aw:=hid (show QR big v z1 z2=Qi (Qi (Qz big (v 7==0) v 9) (2*S) z1) (3*S) z2 by rw[←hS];rfl);have hE:(Qz big (v 7==0) v 9).length=M:=ae.trans hM;obtain⟨E,bd⟩: ∃E,Qz big (v 7==0) v 9=E:=⟨_,rfl⟩;rw[bd]at hE aw HW;clear aa hb ae bd;obtain⟨O,bi⟩:=Ex (2*S);obtain⟨Y,a8⟩:=Ex (3*S);rw[bi,a8]at aw;have e2:(M:Int) - 2*(S:Int)=(O:Int):=by omega
  have e3:(M:Int) - (S:Int)=(Y:Int):=by omega
  have aL:z1.length≤S:=by have:=ay.out;omega
  have aN:z2.length≤S:=by have:=av.out;omega
  have aW:O+S≤M∧Y+S≤M∧O<M∧Y<M∧S≤16∧M≤64:=by omega
  have ak:=hid aW;have bc:=hid aL;have a4:=hid aN;have HE:=hid hE;have ca: ¬(M=O):=by omega
  have cd: ¬(M=Y):=by omega
  have k2:(O:Int)≤(M:Int):=by omega
  have k3:(Y:Int)≤(M:Int):=by omega
  have aj:=hid ar;have bR:o<wr.heap.size∧g<wr.heap.size:=by omega
  have b6:IntKind.i64.wrap (2*(S:Int))=2*(S:Int):=by rw[IntKind.wrap_i64];omega
  have bZ:IntKind.i64.wrap (O:Int)=(O:Int):=by rw[IntKind.wrap_i64];omega
  have b4:IntKind.i64.wrap (Y:Int)=(Y:Int):=by rw[IntKind.wrap_i64];omega
  have bJ:=hid (show Below o w wr from bE.out.trans (HB.out.below (by omega) (by omega)));clear bQ bu aL aN aW bi a8 hE ar bA;go_upto_region 12 with(fail)
  refine qD (n:=8) (w0:=wr) (B:=wr.heap.size) [.v 53 (.slice (some ⟨g,0,none⟩) M M),.v 54 (.int .i64 M),.v 55 (.int .i64 S),.v 56 (.int .i64 (2*(S:Int))),.v 57 (.int .i64 O),.v 58 (.slice (some ⟨g,O,none⟩) (M - O) (M - O)),.v 59 (.pointer (some ⟨o,9,none⟩)),.v 60 (.slice a1 z1.length c1)] trivial Br.drew Nl ?_ ?_
  ·repeat' (with_reducible first|exact qz|refine qx ?_ ?_)
   all_goals
    intro A x W J G U I D K hK;have a3:=J.2 3 (by decide);conv at a3=>rhs;whnf
    have am:=J.2 10 (by decide);conv at am=>rhs;whnf
    have a7:=J.2 7 (by decide);conv at a7=>rhs;whnf
    have a9:=J.2 9 (by decide);conv at a9=>rhs;whnf
    simp only[QN,QV]at D;clear I J;have y:=qg aj.out G;have y0:W.cell? ⟨o,9,none⟩=some (.slice a1 z1.length c1):=qd y 9;have y3:o<W.heap.size:=by omega
    go_simp
    exact hK _ _ BR rfl
  intro x W G U ac;clear ac;refine qp ?_;simp only[QA,Act.put,Ls];have ao:Below o w W:=bJ.out.trans (G.mono (by omega));have ai:=(bN.out.below (al▸ao)).src;have bk:W.heap[g]? =some (.cells (E.map qt).toArray 5 (0,0)):=(G.block g (by omega)).trans HW.out;have aD:=hid (qg aj.out G);have X:O+z1.length≤(E).length:=by have:=ak.out;have:=bc.out;have:=HE.out;omega
  have bn:=hid X;have aK:=hid ao;refine wpList_copy_splice rfl _ _ _ _ rfl 5 Tryz.underlying24 (by rw[hi];simp[aP]) _ _ _ _ _ _ rfl rfl g O (E.map qt) 5 bk (z1.map qt) (by rw[List.length_map];have:=ak.out;have:=bc.out;exact(Nat.min_eq_left (by omega)).symm) (fun h0=>⟨rfl,by
   rcases ai.2.2 with⟨-,h2⟩|⟨ad,c,e,h2⟩
   ·rw[List.length_map]at h0;omega
   ·simp only[Value.slice.injEq]at e;exact⟨ad,e.1,h2⟩⟩) (by rw[List.length_map,List.length_map];exact X) ai.2.1 g W Br Nl ?_
  intro V1 an Z;have bq:=hid (show RowB V1 g (Qi E O z1) from an.out.trans (by unfold splice Qi;simp[List.append_assoc]));have bl:=hid (show Below o w V1 from aK.out.trans (Z.mono (by omega)));have aF:=hid ((Z.block o (by omega)).trans aD.out);have bX:o<V1.heap.size∧g<V1.heap.size:=by have:=Z.size;omega
  clear ai bk X an Z aD aK ao G U;go_wp2_with fail
  refine qv ?_;go_upto_region 13 with(fail)
  refine qD (n:=7) (w0:=V1) (B:=V1.heap.size) [.v 62 (.slice (some ⟨g,0,none⟩) M M),.v 63 (.int .i64 M),.v 64 (.int .i64 S),.v 65 (.int .i64 Y),.v 66 (.slice (some ⟨g,Y,none⟩) (M - Y) (M - Y)),.v 67 (.pointer (some ⟨o,10,none⟩)),.v 68 (.slice a2 z2.length c2)] trivial Br.drew Nl ?_ ?_
  ·repeat' (with_reducible first|exact qz|refine qx ?_ ?_)
   all_goals
    intro A x W J G U I D K hK;have a3:=J.2 3 (by decide);conv at a3=>rhs;whnf
    have am:=J.2 10 (by decide);conv at am=>rhs;whnf
    have a7:=J.2 7 (by decide);conv at a7=>rhs;whnf
    have a9:=J.2 9 (by decide);conv at a9=>rhs;whnf
    simp only[QN,QV]at D;clear I J;have y:=qg aF.out G;have y0:W.cell? ⟨o,10,none⟩=some (.slice a2 z2.length c2):=qd y 10;have y3:o<W.heap.size:=by omega
    go_simp
    exact hK _ _ BR rfl
  have bh:(Qi E O z1).length=M:=by rw[Qk bn.out];exact HE.out
  have bK:=hid bh;clear bh;intro x W G U ac;clear ac;refine qp ?_;simp only[QA,Act.put,Ls];have ap:Below o w W:=bl.out.trans (G.mono (by omega));have aB:=(bL.out.below (al▸ap)).src;have aU:W.heap[g]? =some (.cells ((Qi E O z1).map qt).toArray 5 (0,0)):=(G.block g (by omega)).trans bq.out;have aQ:=hid (qg aF.out G);have V:Y+z2.length≤((Qi E O z1)).length:=by have:=ak.out;have:=a4.out;have:=bK.out;omega
  have bY:=hid V;have aE:=hid ap;refine wpList_copy_splice rfl _ _ _ _ rfl 5 Tryz.underlying24 (by rw[hi];simp[aP]) _ _ _ _ _ _ rfl rfl g Y ((Qi E O z1).map qt) 5 aU (z2.map qt) (by rw[List.length_map];have:=ak.out;have:=a4.out;exact(Nat.min_eq_left (by omega)).symm) (fun h0=>⟨rfl,by
   rcases aB.2.2 with⟨-,h2⟩|⟨ad,c,e,h2⟩
   ·rw[List.length_map]at h0;omega
   ·simp only[Value.slice.injEq]at e;exact⟨ad,e.1,h2⟩⟩) (by rw[List.length_map,List.length_map];exact V) aB.2.1 g W Br Nl ?_
  intro V2 an Z;have bo:=hid (show RowB V2 g (Qi (Qi E O z1) Y z2) from an.out.trans (by unfold splice Qi;simp[List.append_assoc]));have bt:=hid (show Below o w V2 from aE.out.trans (Z.mono (by omega)));have bU:=hid ((Z.block o (by omega)).trans aQ.out);have bW:o<V2.heap.size∧g<V2.heap.size:=by have:=Z.size;omega
  clear aB aU V an Z aQ aE ap G U;go_wp2_with fail
  refine qv ?_;go_wp2
  go_ret2
  have aJ:=yh (big:=big) (v:=v) ay.out av.out;have aG:(Qi (Qi E O z1) Y z2).length=M:=by rw[←aw.out,aJ,hM]
  refine⟨⟨_,rfl,by rw[List.length_map,aJ];omega,.inr ⟨g,M,_,by rw[hM];rfl,by omega,bo.out,by omega,by have:=ak.out;unfold maxLen;omega,?_,?_⟩⟩,by rw[al];exact bt.out⟩
  ·rw[List.size_toArray,List.length_map,aG];omega
  ·rw[←aw.out];exact List.take_of_length_le (by rw[List.length_map,aJ];omega)
theorem qgF (bs kz:List Int)(J:Int)(bv kv:Value)(w:World)(hB:Hold w bv bs)(hK:Hold w kv kz)(hl:bs.length=64)(av:kz.length≤64):
  Calls Tryz.prog 98 #[.int .i64 1,bv,.int .i64 J,kv] w fun e w'=> ∃np p hv au ar,e= .returned (.pointer (some ⟨np,0,none⟩))∧w.heap.size≤np∧w.heap.size≤p∧w'.heap[np]? =some (.cells (ye 1 J au ar false 0 (.iface 277 (.pointer (some ⟨p,0,none⟩)))) 179 (0,0))∧QT true w' p hv (h0Z true bs) (yk 128 kz)∧(∀g,hv.ownBlock=some g→w.heap.size≤g)∧Below w.heap.size w w':=by
 obtain⟨i0,hi,an,ak,ae⟩:=info_parts QD;obtain⟨b0,az⟩:=Ex w.heap.size;have I:=hB.src;have V:=hK.src;rw[hl]at I;have ap:=hid I;have aq:=hid V;have aw:=hid hB.1;have ax:=hid hK.1;have HL:=hid hl;clear I V hB hK hl;go_enter Tryz.func98,Tryz.ntmps98
 go_upto_region 2 with(first|((with_reducible show wpList _ _ _ (Oper.mk (some 13) _ _ _ _ _::_) _ _);refine Qn rfl _ _ _ rfl w w.heap.size rfl Br 5 i0 (.int .u8 0) 1 Tryz.underlying24 hi an ak ae rfl _ 0 [] rfl (Wo _ _ _ _) bv 64 _ rfl ap.out (by unfold maxLen;omega) (by omega) ?_;intro v1 w1 o ac;have aa:=hid o;have O:=hid ac;clear o ac)|((with_reducible show wpList _ _ _ (Oper.mk (some 15) _ _ _ _ _::_) _ _);refine Qn rfl _ _ _ rfl w1 w1.heap.size rfl Br 5 i0 (.int .u8 0) 1 Tryz.underlying24 hi an ak ae rfl _ 0 [] rfl (Wo _ _ _ _) kv kz.length _ rfl (aq.out.below O.out) (by unfold maxLen;omega) (by omega) ?_;intro v2 D q am;obtain⟨a1,n1,c1,rfl⟩:=qu aa.out;obtain⟨a2,Z,c2,rfl⟩:=qu q;have aj:=hid q;have X:=hid am;clear q am))
 have I:=O.out.size;have V:=X.out.size;have U:Below D.heap.size D (D.alloc (.cells (ye 1 J (.slice a1 n1 c1) (.slice a2 Z c2) false 0 .nilIface) 179)):=Br.alloc Nl _;have af:=Wn D (.cells (ye 1 J (.slice a1 n1 c1) (.slice a2 Z c2) false 0 .nilIface) 179);have o:=aa.out;have q:=aj.out;simp only[List.nil_append,Nat.zero_add]at o q;have o:=qk o (fun g _ hg=>X.out.block g hg);have ab:=(Qq o aw.out).below U;have ad:=(Qq q ax.out).below U;have al:(Value.slice a2 Z c2).ownBlock≠some D.heap.size:=fun e=>by
  rcases q.2 with⟨h, -⟩|⟨g,aA,ay,h,h1,Y, -⟩
  ·rw[h]at e;cases e
  ·rw[h]at e;simp only[Value.ownBlock,Option.some.injEq]at e;have:=(Ai Y).1;omega
 have ai:=qfL bs kz D.heap.size J 0 false (.slice a1 n1 c1) (.slice a2 Z c2) .nilIface _ af ab ad HL.out av al;have ah:Below w.heap.size w (D.alloc (.cells (ye 1 J (.slice a1 n1 c1) (.slice a2 Z c2) false 0 .nilIface) 179)):=O.out.trans ((X.out.trans (U.mono V)).mono I);have ag:=hid ai;have G:=hid ah;clear ai ah U af o q ab ad al aa aj O X;go_wp2_with fail
 refine ag.out.mono ?_;rintro e w4 ⟨rfl,⟨p,hv,h1,Y,h3,h4⟩,h5⟩;have HF:=hid (show w.heap.size≤p∧w4.heap[D.heap.size]? =some (.cells (ye 1 J (.slice a1 n1 c1) (.slice a2 Z c2) false 0 (.iface 277 (.pointer (some ⟨p,0,none⟩)))) 179 (0,0))∧QT true w4 p hv (h0Z true bs) (yk 128 kz)∧(∀g,hv.ownBlock=some g→w.heap.size≤g)∧Below w.heap.size w w4 from⟨by have:=G.out.size;omega,Y,h3,fun g hg=>by have:=h4 g hg;have:=G.out.size;omega,G.out.trans (h5.below G.out.size (fun k hk=>by omega))⟩);clear h1 Y h3 h4 h5 ag G;have ao:w.heap.size≤D.heap.size:=by omega
 go_wp2
 go_ret
 obtain⟨h1,Y,h3,h4,h5⟩:=HF.out;exact⟨_,p,hv,_,_,rfl,ao,h1,Y,h3,h4,h5⟩
theorem qfl (bs kz:List Int)(J:Int)(bv kv:Value)(w:World)(hB:Hold w bv bs)(hK:Hold w kv kz)(hl:bs.length=32)(av:kz.length≤32):
  Calls Tryz.prog 98 #[.int .i64 2,bv,.int .i64 J,kv] w fun e w'=> ∃np p hv au ar,e= .returned (.pointer (some ⟨np,0,none⟩))∧w.heap.size≤np∧w.heap.size≤p∧w'.heap[np]? =some (.cells (ye 2 J au ar false 0 (.iface 287 (.pointer (some ⟨p,0,none⟩)))) 179 (0,0))∧QT false w' p hv (h0Z false bs) (yk 64 kz)∧(∀g,hv.ownBlock=some g→w.heap.size≤g)∧Below w.heap.size w w':=by
 obtain⟨i0,hi,an,ak,ae⟩:=info_parts QD;obtain⟨b0,az⟩:=Ex w.heap.size;have I:=hB.src;have V:=hK.src;rw[hl]at I;have ap:=hid I;have aq:=hid V;have aw:=hid hB.1;have ax:=hid hK.1;have HL:=hid hl;clear I V hB hK hl;go_enter Tryz.func98,Tryz.ntmps98
 go_upto_region 2 with(first|((with_reducible show wpList _ _ _ (Oper.mk (some 13) _ _ _ _ _::_) _ _);refine Qn rfl _ _ _ rfl w w.heap.size rfl Br 5 i0 (.int .u8 0) 1 Tryz.underlying24 hi an ak ae rfl _ 0 [] rfl (Wo _ _ _ _) bv 32 _ rfl ap.out (by unfold maxLen;omega) (by omega) ?_;intro v1 w1 o ac;have aa:=hid o;have O:=hid ac;clear o ac)|((with_reducible show wpList _ _ _ (Oper.mk (some 15) _ _ _ _ _::_) _ _);refine Qn rfl _ _ _ rfl w1 w1.heap.size rfl Br 5 i0 (.int .u8 0) 1 Tryz.underlying24 hi an ak ae rfl _ 0 [] rfl (Wo _ _ _ _) kv kz.length _ rfl (aq.out.below O.out) (by unfold maxLen;omega) (by omega) ?_;intro v2 D q am;obtain⟨a1,n1,c1,rfl⟩:=qu aa.out;obtain⟨a2,Z,c2,rfl⟩:=qu q;have aj:=hid q;have X:=hid am;clear q am))
 have I:=O.out.size;have V:=X.out.size;have U:Below D.heap.size D (D.alloc (.cells (ye 2 J (.slice a1 n1 c1) (.slice a2 Z c2) false 0 .nilIface) 179)):=Br.alloc Nl _;have af:=Wn D (.cells (ye 2 J (.slice a1 n1 c1) (.slice a2 Z c2) false 0 .nilIface) 179);have o:=aa.out;have q:=aj.out;simp only[List.nil_append,Nat.zero_add]at o q;have o:=qk o (fun g _ hg=>X.out.block g hg);have ab:=(Qq o aw.out).below U;have ad:=(Qq q ax.out).below U;have al:(Value.slice a2 Z c2).ownBlock≠some D.heap.size:=fun e=>by
  rcases q.2 with⟨h, -⟩|⟨g,aA,ay,h,h1,Y, -⟩
  ·rw[h]at e;cases e
  ·rw[h]at e;simp only[Value.ownBlock,Option.some.injEq]at e;have:=(Ai Y).1;omega
 have ai:=qet bs kz D.heap.size J 0 false (.slice a1 n1 c1) (.slice a2 Z c2) .nilIface _ af ab ad HL.out av al;have ah:Below w.heap.size w (D.alloc (.cells (ye 2 J (.slice a1 n1 c1) (.slice a2 Z c2) false 0 .nilIface) 179)):=O.out.trans ((X.out.trans (U.mono V)).mono I);have ag:=hid ai;have G:=hid ah;clear ai ah U af o q ab ad al aa aj O X;go_wp2_with fail
 refine ag.out.mono ?_;rintro e w4 ⟨rfl,⟨p,hv,h1,Y,h3,h4⟩,h5⟩;have HF:=hid (show w.heap.size≤p∧w4.heap[D.heap.size]? =some (.cells (ye 2 J (.slice a1 n1 c1) (.slice a2 Z c2) false 0 (.iface 287 (.pointer (some ⟨p,0,none⟩)))) 179 (0,0))∧QT false w4 p hv (h0Z false bs) (yk 64 kz)∧(∀g,hv.ownBlock=some g→w.heap.size≤g)∧Below w.heap.size w w4 from⟨by have:=G.out.size;omega,Y,h3,fun g hg=>by have:=h4 g hg;have:=G.out.size;omega,G.out.trans (h5.below G.out.size (fun k hk=>by omega))⟩);clear h1 Y h3 h4 h5 ag G;have ao:w.heap.size≤D.heap.size:=by omega
 go_wp2
 go_ret
 obtain⟨h1,Y,h3,h4,h5⟩:=HF.out;exact⟨_,p,hv,_,_,rfl,ao,h1,Y,h3,h4,h5⟩
def Yb (k:Int)(bv kv:Value)(la:Bool)(o:Int)(dv:Value):Array Value:= #[.int .i64 k,bv,kv,.bool la,.int .i64 o,dv]
def Yh (bs kz:List Int):Bool:=decide (kz.length≠0∧(kz.length:Int)≠qr bs 1)
theorem J4 (o kz:List Int):Yh o kz=(((kz.length:Int) != 0)&&((kz.length:Int) != qr o 1)):=by
 unfold Yh;rw[Bool.eq_iff_iff];simp only[decide_eq_true_eq,Bool.and_eq_true,bne_iff_ne,ne_eq];omega
theorem qdh {big:Bool}{o kz:List Int}(h:okD big false o)(q:Yh o kz=false):kz.length≤mB big:=by
 unfold Yh at q;have G:=of_decide_eq_false q;have D:0≤qr o 1∧qr o 1≤(mB big:Nat):=h.2.2.2.2.1;omega
def jO (big:Bool)(bs kz:List Int)(la:Bool)(o:Int)(ds:List Int):List Int:=(zc big (h0Z big bs) (yk (bB big) kz++ds) la).take o.toNat
def qbN (big:Bool)(bs kz:List Int)(la:Bool)(o:Int)(ds:List Int)(w:World)(e:Ending)(w':World):Prop:=
 (∃v,e= .returned (.tuple #[v,.int .i64 0])∧Fresh w.heap.size w' v (jO big bs kz la o ds))∧Below w.heap.size w w'
theorem qf3 {big:Bool}{w w':World}{p q:Nat}{J:Value}{I D:List Int}{c:Array Value}{T:TypeId}{fr:Nat×Nat}(h:QT big w p J I D)(O:But q w w')(G:w.heap[q]? =some (.cells c T fr))(X:T≠283)(U:T≠291)(V:T≠5):QT big w' p J I D:=by
 refine⟨?_,Yc h.2 O G V⟩;rw[O.block p (Ai h.1).1 ?_];exact h.1;rintro rfl
 have o:=h.1;rw[G]at o;simp only[Option.some.injEq,Obj.cells.injEq]at o
 cases big
 ·exact U o.2.1
 ·exact X o.2.1
theorem qaC {big:Bool}{w:World}{p q:Nat}{D:Value}{I o:List Int}{c:Array Value}{T:TypeId}{fr:Nat×Nat}(h:QT big w p D I o)(G:w.heap[q]? =some (.cells c T fr))(J:T≠5):D.ownBlock≠some q:=fun e=>qc5 h.2 G J e.symm
theorem qgX (O kz ds:List Int)(J:Bool)(o:Int)(Y kv X:Value)(w:World)(hB:Hold w Y O)(hK:Hold w kv kz)(hD:Hold w X ds)(bc:(ds.length:Int)≤140737488355200)(a7:okD true false O)(an:Yh O kz=false)(ho:1≤o∧o≤64):
  Calls Tryz.prog 60 #[.agg (Yb 1 Y kv J o X)] w fun e w'=>qbN true O kz J o ds w e w':=by
 obtain⟨G,V⟩:=Ex w.heap.size;obtain⟨ka,kc,rfl,bf,bl⟩:=hK.slice;have ao:Below G w (w.alloc (.cells #[.int .i64 1,Y,.slice ka kz.length kc,.bool J,.int .i64 o,X] 73)):=by rw[←V];exact Br.alloc Nl _
 have ae:=Wn w (.cells #[.int .i64 1,Y,.slice ka kz.length kc,.bool J,.int .i64 o,X] 73);rw[V]at ae;have ai:=hB.below (V▸ao);have HB:=hid hB;have HK:=hid hK;have HD:=hid hD;have a5:=hid bc;have au:=hid a7;have aY:=hid an;have HO:=hid ho;clear hB hK hD bc bf bl a7 an ho;show Calls _ _ #[.agg #[.int .i64 1,Y,.slice ka kz.length kc,.bool J,.int .i64 o,X]] _ _
 go_enter Tryz.func60,Tryz.ntmps60
 go_wp2_with fail
 generalize w.alloc (.cells #[.int .i64 1,Y,.slice ka kz.length kc,.bool J,.int .i64 o,X] 73)=wA at*;refine(qcC true O Y wA ai.holds8 ai.1 (fun a n c e=>by obtain⟨a',c',e',h1,h2⟩:=ai.slice;rw[e']at e;simp only[Value.slice.injEq]at e;obtain⟨-,rfl,rfl⟩:=e;exact⟨h1,h2⟩) au.out).mono ?_;rintro e w1 ⟨⟨fo,dp,lf,aR,nd,aO,sa,pe,rfl,bt,bu⟩,ah⟩;obtain⟨ky,aw⟩:=Ex (qr O 1);obtain⟨dg,aM⟩:=Ex (qr O 0);rw[aw,aM];unfold yT;have aK:=qg ae ah;have bz:=ah.size;have bi:G<wA.heap.size:=(Ai ae).1;have aQ:Below G w w1:=ao.trans (ah.mono (by omega));have aV:=hid aK;have aF:=hid aQ;clear aK aQ ah ao ae ai;go_upto_if 24 with((with_reducible show wpList _ _ _ (Oper.mk none (Op.store 171 _ _) _ _ _ _::_) _ _);refine wpList_store_row rfl 171 _ _ rfl w1.heap.size #[.int .i64 dg,.int .i64 ky,.int .i64 fo,.int .i64 dp,.int .u32 lf,.int .u64 aR,.int .u32 0,.int .i64 nd,.int .i64 aO,sa,pe] rfl rfl 171 _ (Wn _ _) (by kernel_rfl) rfl (by simp only[List.all_toArray,List.all_cons,List.all_nil,bt,bu];rfl) ?_)
 refine qm ?_;intro W hW;obtain⟨p4,al⟩:=Ex w1.heap.size;have ag:W.heap[p4]? =some (.cells #[.int .i64 dg,.int .i64 ky,.int .i64 fo,.int .i64 dp,.int .u32 lf,.int .u64 aR,.int .u32 0,.int .i64 nd,.int .i64 aO,sa,pe] 171 (0,0)):=by rw[hW,←al];exact setRow_heap _ _ _ _ _ _ (Wn _ _)
 have ab:W.heap[G]? =some (.cells #[.int .i64 1,Y,.slice ka kz.length kc,.bool J,.int .i64 o,X] 73 (0,0)):=by rw[hW];exact(setRow_other (w1.alloc _) _ _ _ (by omega)).trans ((Bh _ _ _ (by omega)).trans aV.out)
 have am:Below G w W:=by rw[hW];exact below_setRow (aF.out.alloc (by omega) _) (by omega) _
 rw[al];have bP:G<p4:=by omega
 clear hW al aV aF bz bi;have bw:p4<W.heap.size:=(Ai ag).1;have bD:=HB.out.below (V▸am);have a8:=hid ab;have aj:=hid am;have bN:W.cell? ⟨p4,0,none⟩=some (.int .i64 dg):=qd ag 0;have bH:W.cell? ⟨p4,1,none⟩=some (.int .i64 ky):=qd ag 1;have br:W.cell? ⟨G,0,none⟩=some (.int .i64 1):=qd ab 0;have bq:W.cell? ⟨G,1,none⟩=some Y:=qd ab 1;have bA:W.cell? ⟨G,2,none⟩=some (.slice ka kz.length kc):=qd ab 2;have bg:G<W.heap.size:=(Ai ab).1;obtain⟨q0,aT⟩: ∃q,((kz.length:Int) != 0)=q:=⟨_,rfl⟩;obtain⟨q1,be⟩: ∃q,((kz.length:Int) != ky)=q:=⟨_,rfl⟩;have aU:(q0&&q1)=false:=by rw[←aT,←be,←aw];exact(J4 O kz).symm.trans aY.out
 have bp:kz.length≤64:=qdh au.out aY.out;clear ag ab am aw aM bD;go_upto_region 8 with(fail)
 go_cut [46] from 7 (fun u W'=>u= .bool false∧W=W')
 case first=>
  cases q0<;>cases q1<;>first|(exfalso;cases aU;done)|skip
  all_goals
   go_wp2
   go_meet
   case rel=>exact⟨rfl,by trivial⟩
 case rest=>
  clear aT be bH aU;obtain⟨rfl,rfl⟩:=hcut;have ba:=qgF O kz dg Y (.slice ka kz.length kc) W (HB.out.below (V▸aj.out)) (HK.out.below (V▸aj.out)) au.out.1 bp;have aG:=hid ba;clear ba;go_wp2_with fail
  refine aG.out.mono ?_;rintro e U ⟨I,p,hv,aD,aZ,rfl,m1,m2,m3,m4,m5,m6⟩;have ak:=qg a8.out m6;have a4:Below G w U:=aj.out.trans (m6.mono (by omega));have bJ:=m6.size;have bm:U.cell? ⟨G,3,none⟩=some (.bool J):=qd ak 3;have bn:U.cell? ⟨I,4,none⟩=some (.bool false):=qd m3 4;have bL:=frozen_of_row U I 4 _ _ m3;have af:G<U.heap.size:=by omega
  have bj:I<U.heap.size:=(Ai m3).1;have bK:G<I∧G<p:=by omega
  obtain⟨bO,bR⟩:=bK;have ac:But I U (U.setCell ⟨I,4,none⟩ (.bool J)):=(But.refl I U).set 4 _;have bd:=jr (b:=J) m3;have aL:=qf3 m4 ac m3 (by decide) (by decide) (by decide);have aA:=(ac.block G af (by omega)).trans ak;have a9:Below G w (U.setCell ⟨I,4,none⟩ (.bool J)):=a4.trans (ac.below (by omega) (by omega));have bh:p≠I:=fun e=>by have h1:=m4.1;rw[e,m3]at h1;simp only[cond,Option.some.injEq,Obj.cells.injEq]at h1;exact absurd h1.2.1 (by decide)
  have aH: ∀g,hv.ownBlock=some g→G<g:=fun g hg=>by have:=m5 g hg;omega
  have aI:=hid bd;have ax:=hid aL;have aX:=hid aA;have av:=hid a9;have aq:=hid aH;have aC:(U.setCell ⟨I,4,none⟩ (.bool J)).heap.size=U.heap.size:=by simp[World.setCell]
  rw[←aC]at bj af;clear ak a4 m1 m2 m3 m4 m5 aH m6 ac bd aL aA a9 bJ aC a8 aj aG br bq bA bg bN bw;go_upto_region 12 with(fail)
  generalize U.setCell ⟨I,4,none⟩ (.bool J)=W4 at*;clear bm bn bL U W;refine Q9 (fun f W=>W.heap[I]? =some (.cells (ye 1 dg aD aZ J 0 (.iface 277 (.pointer (some ⟨p,0,none⟩)))) 179 (0,0))∧W.heap[G]? =some (.cells #[.int .i64 1,Y,.slice ka kz.length kc,.bool J,.int .i64 o,X] 73 (0,0))∧(f=false→Below W4.heap.size W4 W)∧(f=true→Spare (zl p hv) W4 W∧ ∃ad,QT true W p ad (h0Z true O) (yk 128 kz++ds))) 6 [.v 61 (.pointer (some ⟨I,0,none⟩)),.v 62 (.pointer (some ⟨I,0,none⟩)),.v 63 (.pointer (some ⟨I,6,none⟩)),.v 64 (.iface 277 (.pointer (some ⟨p,0,none⟩))),.v 65 (.pointer (some ⟨G,5,none⟩)),.v 66 X,.p 67 (fun _ _=>True)] (by exact⟨kW,trivial⟩) ⟨aI.out,aX.out,fun _=>Br.drew,fun h=>(by cases h)⟩ (fun f W W' h hb=>⟨qg h.1 hb,qg h.2.1 hb,fun e=>(h.2.2.1 e).trans (hb.mono (h.2.2.1 e).size),fun e=>by obtain⟨h1,ad,h2⟩:=h.2.2.2 e;exact⟨h1.trans (Spare.of_below _ hb) (fun _ _ h=>h),ad,yD h2 hb⟩⟩) ?_ ?_ ?_
  ·repeat' (with_reducible first|exact qz|refine qx ?_ ?_)
   all_goals try
    refine .inr ?_;intro A x W f hA Z hf aa D K hK;have a6:=hA.2 6 (by decide);conv at a6=>rhs;whnf
    have a1:=hA.2 1 (by decide);conv at a1=>rhs;whnf
    simp only[QN,QV]at D;clear aa hA;first
    | go_simp
      exact hK _ _ BR rfl
    | have y0:W.cell? ⟨I,6,none⟩=some (.iface 277 (.pointer (some ⟨p,0,none⟩))):=qd Z.1 6
      have y1:W.cell? ⟨G,5,none⟩=some X:=qd Z.2.1 5;go_simp
      exact hK _ _ BR rfl
   any_goals exact .inl rfl
  ·intro A x W hA Z aa K hK;have bS:=gw hA aa 3 64;have bT:=gw hA aa 5 66;clear aa hA;have hB:=Z.2.2.1 rfl;go_simp
   refine Yj (f:=260) (by kernel_rfl) ?_;go_simp
   have bo:Hold W X ds:=HD.out.below (V▸av.out.trans (hB.mono (by omega)));refine(qa1 (h0Z true O) (yk 128 kz) ds (QS true O) (YT HK.out.1) p hv X W (yD ax.out hB) bo (fun aB b hb=>⟨fun e=>by have:=Yx HD.out aB hb;omega,fun e=>by have:=Yx HD.out aB hb;have:=aq.out b e;omega⟩) (by have:=YS (n:=128) (key:=kz) (by omega);have:=a5.out;omega)).mono ?_;rintro e w' ⟨rfl,⟨ad,bG, -⟩,az⟩
   refine hK _ _ (fun h=>by cases h) ⟨(az.block I (Ai Z.1).1 ⟨fun e=>bh e.symm,qaC (yD ax.out hB) Z.1 (by decide)⟩).trans Z.1,(az.block G (Ai Z.2.1).1 ⟨by omega,fun e=>by have:=aq.out G e;omega⟩).trans Z.2.1,fun h=>(by cases h),fun _=>⟨(Spare.of_below _ hB).trans az (fun _ _ h=>h),ad,bG⟩⟩ ⟨.inr (fun _ h=>h),.inr (fun _ h=>h),.inr (fun _ h=>h),.inr (fun _ h=>h),.inr (fun _ h=>h),.inr (fun _ h=>h),.inl rfl,trivial⟩ trivial
  intro x W Z bk;obtain⟨aJ, -⟩:=bk;change ((fun _ _=>True)) (x 67) W at aJ
  simp only[QA,Act.put,Ls];obtain⟨aW,ay, -,h9⟩:=Z;obtain⟨bb,bI,aP⟩:=h9 rfl;have a3:Below G w W:=av.out.trans (bb.below (by omega) (fun k hk=>⟨by omega,fun e=>by have:=aq.out k e;omega⟩));have bU:W.cell? ⟨G,4,none⟩=some (.int .i64 o):=qd ay 4;have bQ:G<W.heap.size:=(Ai ay).1;have bM:=hid aW;have bC:=hid aP;have bE:=hid a3;clear aW ay h9 bb aP a3 aJ aI ax aX av;go_wp2_with fail
  have ho:=HO.out;obtain⟨m,hm⟩: ∃m:Nat,o=(m:Int):=⟨o.toNat,by omega⟩;have ap:1≤m∧m≤64:=by omega
  clear ho HO;subst hm;have ar:(((yk 128 kz)++ds).length:Int)≤281474976710656:=by
   have:=YS (n:=128) (key:=kz) (by omega)
   have:=a5.out
   rw[List.length_append];omega
  have aE: ∀z∈yk 128 kz++ds,0≤z∧z≤255:=fun z hz=>by
   rcases List.mem_append.1 hz with hz|hz
   ·exact YT HK.out.1 z hz
   ·exact HD.out.1 z hz
  refine(qc8 (h0Z true O) (yk 128 kz++ds) (QS true O) aE I p m dg 0 J aD aZ bI _ bM.out bC.out ar ap.1 ap.2).mono ?_;rintro e w5 ⟨⟨v5,rfl,aS⟩,aN⟩;have bF:=hid (show Fresh w.heap.size w5 v5 (jO true O kz J (m:Nat) ds) from by have h:=aS.le (b':=w.heap.size) (by omega);unfold jO;exact h);have bx:=hid (show Below G w w5 from bE.out.trans (aN.mono (by omega)));clear aS aN ar aE ap;go_wp2
  go_ret2
  exact⟨⟨_,rfl,bF.out⟩,by rw[V];exact bx.out⟩
theorem qfG (O kz ds:List Int)(J:Bool)(o:Int)(Y kv X:Value)(w:World)(hB:Hold w Y O)(hK:Hold w kv kz)(hD:Hold w X ds)(bc:(ds.length:Int)≤140737488355200)(a7:okD false false O)(an:Yh O kz=false)(ho:1≤o∧o≤32):
  Calls Tryz.prog 60 #[.agg (Yb 2 Y kv J o X)] w fun e w'=>qbN false O kz J o ds w e w':=by
 obtain⟨G,V⟩:=Ex w.heap.size;obtain⟨ka,kc,rfl,bf,bl⟩:=hK.slice;have ao:Below G w (w.alloc (.cells #[.int .i64 2,Y,.slice ka kz.length kc,.bool J,.int .i64 o,X] 73)):=by rw[←V];exact Br.alloc Nl _
 have ae:=Wn w (.cells #[.int .i64 2,Y,.slice ka kz.length kc,.bool J,.int .i64 o,X] 73);rw[V]at ae;have ai:=hB.below (V▸ao);have HB:=hid hB;have HK:=hid hK;have HD:=hid hD;have a5:=hid bc;have au:=hid a7;have aY:=hid an;have HO:=hid ho;clear hB hK hD bc bf bl a7 an ho;show Calls _ _ #[.agg #[.int .i64 2,Y,.slice ka kz.length kc,.bool J,.int .i64 o,X]] _ _
 go_enter Tryz.func60,Tryz.ntmps60
 go_wp2_with fail
 generalize w.alloc (.cells #[.int .i64 2,Y,.slice ka kz.length kc,.bool J,.int .i64 o,X] 73)=wA at*;refine(qcC false O Y wA ai.holds8 ai.1 (fun a n c e=>by obtain⟨a',c',e',h1,h2⟩:=ai.slice;rw[e']at e;simp only[Value.slice.injEq]at e;obtain⟨-,rfl,rfl⟩:=e;exact⟨h1,h2⟩) au.out).mono ?_;rintro e w1 ⟨⟨fo,dp,lf,aR,nd,aO,sa,pe,rfl,bt,bu⟩,ah⟩;obtain⟨ky,aw⟩:=Ex (qr O 1);obtain⟨dg,aM⟩:=Ex (qr O 0);rw[aw,aM];unfold yT;have aK:=qg ae ah;have bz:=ah.size;have bi:G<wA.heap.size:=(Ai ae).1;have aQ:Below G w w1:=ao.trans (ah.mono (by omega));have aV:=hid aK;have aF:=hid aQ;clear aK aQ ah ao ae ai;go_upto_if 24 with((with_reducible show wpList _ _ _ (Oper.mk none (Op.store 171 _ _) _ _ _ _::_) _ _);refine wpList_store_row rfl 171 _ _ rfl w1.heap.size #[.int .i64 dg,.int .i64 ky,.int .i64 fo,.int .i64 dp,.int .u32 lf,.int .u64 aR,.int .u32 0,.int .i64 nd,.int .i64 aO,sa,pe] rfl rfl 171 _ (Wn _ _) (by kernel_rfl) rfl (by simp only[List.all_toArray,List.all_cons,List.all_nil,bt,bu];rfl) ?_)
 refine qm ?_;intro W hW;obtain⟨p4,al⟩:=Ex w1.heap.size;have ag:W.heap[p4]? =some (.cells #[.int .i64 dg,.int .i64 ky,.int .i64 fo,.int .i64 dp,.int .u32 lf,.int .u64 aR,.int .u32 0,.int .i64 nd,.int .i64 aO,sa,pe] 171 (0,0)):=by rw[hW,←al];exact setRow_heap _ _ _ _ _ _ (Wn _ _)
 have ab:W.heap[G]? =some (.cells #[.int .i64 2,Y,.slice ka kz.length kc,.bool J,.int .i64 o,X] 73 (0,0)):=by rw[hW];exact(setRow_other (w1.alloc _) _ _ _ (by omega)).trans ((Bh _ _ _ (by omega)).trans aV.out)
 have am:Below G w W:=by rw[hW];exact below_setRow (aF.out.alloc (by omega) _) (by omega) _
 rw[al];have bP:G<p4:=by omega
 clear hW al aV aF bz bi;have bw:p4<W.heap.size:=(Ai ag).1;have bD:=HB.out.below (V▸am);have a8:=hid ab;have aj:=hid am;have bN:W.cell? ⟨p4,0,none⟩=some (.int .i64 dg):=qd ag 0;have bH:W.cell? ⟨p4,1,none⟩=some (.int .i64 ky):=qd ag 1;have br:W.cell? ⟨G,0,none⟩=some (.int .i64 2):=qd ab 0;have bq:W.cell? ⟨G,1,none⟩=some Y:=qd ab 1;have bA:W.cell? ⟨G,2,none⟩=some (.slice ka kz.length kc):=qd ab 2;have bg:G<W.heap.size:=(Ai ab).1;obtain⟨q0,aT⟩: ∃q,((kz.length:Int) != 0)=q:=⟨_,rfl⟩;obtain⟨q1,be⟩: ∃q,((kz.length:Int) != ky)=q:=⟨_,rfl⟩;have aU:(q0&&q1)=false:=by rw[←aT,←be,←aw];exact(J4 O kz).symm.trans aY.out
 have bp:kz.length≤32:=qdh au.out aY.out;clear ag ab am aw aM bD;go_upto_region 8 with(fail)
 go_cut [46] from 7 (fun u W'=>u= .bool false∧W=W')
 case first=>
  cases q0<;>cases q1<;>first|(exfalso;cases aU;done)|skip
  all_goals
   go_wp2
   go_meet
   case rel=>exact⟨rfl,by trivial⟩
 case rest=>
  clear aT be bH aU;obtain⟨rfl,rfl⟩:=hcut;have ba:=qfl O kz dg Y (.slice ka kz.length kc) W (HB.out.below (V▸aj.out)) (HK.out.below (V▸aj.out)) au.out.1 bp;have aG:=hid ba;clear ba;go_wp2_with fail
  refine aG.out.mono ?_;rintro e U ⟨I,p,hv,aD,aZ,rfl,m1,m2,m3,m4,m5,m6⟩;have ak:=qg a8.out m6;have a4:Below G w U:=aj.out.trans (m6.mono (by omega));have bJ:=m6.size;have bm:U.cell? ⟨G,3,none⟩=some (.bool J):=qd ak 3;have bn:U.cell? ⟨I,4,none⟩=some (.bool false):=qd m3 4;have bL:=frozen_of_row U I 4 _ _ m3;have af:G<U.heap.size:=by omega
  have bj:I<U.heap.size:=(Ai m3).1;have bK:G<I∧G<p:=by omega
  obtain⟨bO,bR⟩:=bK;have ac:But I U (U.setCell ⟨I,4,none⟩ (.bool J)):=(But.refl I U).set 4 _;have bd:=jr (b:=J) m3;have aL:=qf3 m4 ac m3 (by decide) (by decide) (by decide);have aA:=(ac.block G af (by omega)).trans ak;have a9:Below G w (U.setCell ⟨I,4,none⟩ (.bool J)):=a4.trans (ac.below (by omega) (by omega));have bh:p≠I:=fun e=>by have h1:=m4.1;rw[e,m3]at h1;simp only[cond,Option.some.injEq,Obj.cells.injEq]at h1;exact absurd h1.2.1 (by decide)
  have aH: ∀g,hv.ownBlock=some g→G<g:=fun g hg=>by have:=m5 g hg;omega
  have aI:=hid bd;have ax:=hid aL;have aX:=hid aA;have av:=hid a9;have aq:=hid aH;have aC:(U.setCell ⟨I,4,none⟩ (.bool J)).heap.size=U.heap.size:=by simp[World.setCell]
  rw[←aC]at bj af;clear ak a4 m1 m2 m3 m4 m5 aH m6 ac bd aL aA a9 bJ aC a8 aj aG br bq bA bg bN bw;go_upto_region 12 with(fail)
  generalize U.setCell ⟨I,4,none⟩ (.bool J)=W4 at*;clear bm bn bL U W;refine Q9 (fun f W=>W.heap[I]? =some (.cells (ye 2 dg aD aZ J 0 (.iface 287 (.pointer (some ⟨p,0,none⟩)))) 179 (0,0))∧W.heap[G]? =some (.cells #[.int .i64 2,Y,.slice ka kz.length kc,.bool J,.int .i64 o,X] 73 (0,0))∧(f=false→Below W4.heap.size W4 W)∧(f=true→Spare (zl p hv) W4 W∧ ∃ad,QT false W p ad (h0Z false O) (yk 64 kz++ds))) 6 [.v 61 (.pointer (some ⟨I,0,none⟩)),.v 62 (.pointer (some ⟨I,0,none⟩)),.v 63 (.pointer (some ⟨I,6,none⟩)),.v 64 (.iface 287 (.pointer (some ⟨p,0,none⟩))),.v 65 (.pointer (some ⟨G,5,none⟩)),.v 66 X,.p 67 (fun _ _=>True)] (by exact⟨kW,trivial⟩) ⟨aI.out,aX.out,fun _=>Br.drew,fun h=>(by cases h)⟩ (fun f W W' h hb=>⟨qg h.1 hb,qg h.2.1 hb,fun e=>(h.2.2.1 e).trans (hb.mono (h.2.2.1 e).size),fun e=>by obtain⟨h1,ad,h2⟩:=h.2.2.2 e;exact⟨h1.trans (Spare.of_below _ hb) (fun _ _ h=>h),ad,yD h2 hb⟩⟩) ?_ ?_ ?_
  ·repeat' (with_reducible first|exact qz|refine qx ?_ ?_)
   all_goals try
    refine .inr ?_;intro A x W f hA Z hf aa D K hK;have a6:=hA.2 6 (by decide);conv at a6=>rhs;whnf
    have a1:=hA.2 1 (by decide);conv at a1=>rhs;whnf
    simp only[QN,QV]at D;clear aa hA;first
    | go_simp
      exact hK _ _ BR rfl
    | have y0:W.cell? ⟨I,6,none⟩=some (.iface 287 (.pointer (some ⟨p,0,none⟩))):=qd Z.1 6
      have y1:W.cell? ⟨G,5,none⟩=some X:=qd Z.2.1 5;go_simp
      exact hK _ _ BR rfl
   any_goals exact .inl rfl
  ·intro A x W hA Z aa K hK;have bS:=gw hA aa 3 64;have bT:=gw hA aa 5 66;clear aa hA;have hB:=Z.2.2.1 rfl;go_simp
   refine Yj (f:=266) (by kernel_rfl) ?_;go_simp
   have bo:Hold W X ds:=HD.out.below (V▸av.out.trans (hB.mono (by omega)));refine(qah (h0Z false O) (yk 64 kz) ds (QS false O) (YT HK.out.1) p hv X W (yD ax.out hB) bo (fun aB b hb=>⟨fun e=>by have:=Yx HD.out aB hb;omega,fun e=>by have:=Yx HD.out aB hb;have:=aq.out b e;omega⟩) (by have:=YS (n:=64) (key:=kz) (by omega);have:=a5.out;omega)).mono ?_;rintro e w' ⟨rfl,⟨ad,bG, -⟩,az⟩
   refine hK _ _ (fun h=>by cases h) ⟨(az.block I (Ai Z.1).1 ⟨fun e=>bh e.symm,qaC (yD ax.out hB) Z.1 (by decide)⟩).trans Z.1,(az.block G (Ai Z.2.1).1 ⟨by omega,fun e=>by have:=aq.out G e;omega⟩).trans Z.2.1,fun h=>(by cases h),fun _=>⟨(Spare.of_below _ hB).trans az (fun _ _ h=>h),ad,bG⟩⟩ ⟨.inr (fun _ h=>h),.inr (fun _ h=>h),.inr (fun _ h=>h),.inr (fun _ h=>h),.inr (fun _ h=>h),.inr (fun _ h=>h),.inl rfl,trivial⟩ trivial
  intro x W Z bk;obtain⟨aJ, -⟩:=bk;change ((fun _ _=>True)) (x 67) W at aJ
  simp only[QA,Act.put,Ls];obtain⟨aW,ay, -,h9⟩:=Z;obtain⟨bb,bI,aP⟩:=h9 rfl;have a3:Below G w W:=av.out.trans (bb.below (by omega) (fun k hk=>⟨by omega,fun e=>by have:=aq.out k e;omega⟩));have bU:W.cell? ⟨G,4,none⟩=some (.int .i64 o):=qd ay 4;have bQ:G<W.heap.size:=(Ai ay).1;have bM:=hid aW;have bC:=hid aP;have bE:=hid a3;clear aW ay h9 bb aP a3 aJ aI ax aX av;go_wp2_with fail
  have ho:=HO.out;obtain⟨m,hm⟩: ∃m:Nat,o=(m:Int):=⟨o.toNat,by omega⟩;have ap:1≤m∧m≤32:=by omega
  clear ho HO;subst hm;have ar:(((yk 64 kz)++ds).length:Int)≤281474976710656:=by
   have:=YS (n:=64) (key:=kz) (by omega)
   have:=a5.out
   rw[List.length_append];omega
  have aE: ∀z∈yk 64 kz++ds,0≤z∧z≤255:=fun z hz=>by
   rcases List.mem_append.1 hz with hz|hz
   ·exact YT HK.out.1 z hz
   ·exact HD.out.1 z hz
  refine(qb5 (h0Z false O) (yk 64 kz++ds) (QS false O) aE I p m dg 0 J aD aZ bI _ bM.out bC.out ar ap.1 ap.2).mono ?_;rintro e w5 ⟨⟨v5,rfl,aS⟩,aN⟩;have bF:=hid (show Fresh w.heap.size w5 v5 (jO false O kz J (m:Nat) ds) from by have h:=aS.le (b':=w.heap.size) (by omega);unfold jO;exact h);have bx:=hid (show Below G w w5 from bE.out.trans (aN.mono (by omega)));clear aS aN ar aE ap;go_wp2
  go_ret2
  exact⟨⟨_,rfl,bF.out⟩,by rw[V];exact bx.out⟩
def DecIs (big:Bool)(bs:List Int)(base:Nat)(w':World)(cs:Array Value):Prop:=
 cs.size=11∧cs.all (·.oneCell')=true∧ ∃sa pe,Value.agg cs=parN (Yn big false bs) sa pe∧w'.ownsRow base 5 1 sa (YD big bs).length ((YD big bs).map qt)∧w'.ownsRow base 5 1 pe (YR big bs).length ((YR big bs).map qt)
def qcH (big:Bool)(bs:List Int)(w:World)(e:Ending)(w':World):Prop:=
 (∃cs,e= .returned (.tuple #[.agg cs,.int .i64 0])∧DecIs big bs w.heap.size w' cs)∧Below w.heap.size w w'
theorem qhT {big:Bool}{o:List Int}{base:Nat}{w':World}{D q:Value}(G:w'.ownsRow base 5 1 D (YD big o).length ((YD big o).map qt))(I:w'.ownsRow base 5 1 q (YR big o).length ((YR big o).map qt)):
  ∃cs,parN (Yn big false o) D q= .agg cs∧DecIs big o base w' cs:=by
 obtain⟨a1,J,c1,rfl⟩:=qu G;obtain⟨a2,O,c2,rfl⟩:=qu I;refine⟨_,rfl,rfl,?_,_,_,rfl,G,I⟩;simp[Value.oneCell']
theorem DecIs.mono {big:Bool}{D:List Int}{base b':Nat}{w w':World}{cs:Array Value}(h:DecIs big D base w cs)(q:b'≤base)(o: ∀g,base≤g→g<w.heap.size→w'.heap[g]? =w.heap[g]?):DecIs big D b' w' cs:=by
 obtain⟨U,G,J,I,e,O,V⟩:=h;exact⟨U,G,J,I,e,ownsRow_le (qk O o) q,ownsRow_le (qk V o) q⟩
theorem yo {W:World}{base n b:Nat}{v:Value}{G:List Value}{c cs:Array Value}{T:TypeId}(h:W.ownsRow base 5 1 v n G)(O:W.heap[b]? =some (.cells c T (0,0)))(J:T≠5):(W.setRow b cs).ownsRow base 5 1 v n G:=by
 refine⟨h.1,?_⟩;rcases h.2 with o|⟨g,D,q,e,U,o,I⟩
 ·exact .inl o
 ·refine .inr ⟨g,D,q,e,U,?_,I⟩;rw[setRow_other _ _ _ _ ?_];exact o;rintro rfl
  rw[O]at o;simp only[Option.some.injEq,Obj.cells.injEq]at o;exact J o.2.1
theorem qgS {big:Bool}{G:List Int}{o b':Nat}{W:World}{cs c ds:Array Value}(h:DecIs big G o W cs)(D:W.heap[o]? =some (.cells c 171 (0,0)))(q:b'≤o):DecIs big G b' (W.setRow o ds) cs:=by
 obtain⟨V,I,O,J,e,U,X⟩:=h;exact⟨V,I,O,J,e,ownsRow_le (yo U D (by decide)) q,ownsRow_le (yo X D (by decide)) q⟩
theorem qbZ (big:Bool)(Z:List Int)(bv:Value)(w:World)(hB:Hold w bv Z)(ah:okD big false Z):
  Calls Tryz.prog 120 #[.int .i64 (kB big),bv] w fun e w'=>qcH big Z w e w':=by
 obtain⟨q,I⟩:=Ex w.heap.size;have X:Below q w (w.alloc (.cells #[.int .i64 0,.int .i64 0,.int .i64 0,.int .i64 0,.int .u32 0,.int .u64 0,.int .u32 0,.int .i64 0,.int .i64 0,.slice none 0 0,.slice none 0 0] 171)):=by rw[←I];exact Br.alloc Nl _
 have J:=Wn w (.cells #[.int .i64 0,.int .i64 0,.int .i64 0,.int .i64 0,.int .u32 0,.int .u64 0,.int .u32 0,.int .i64 0,.int .i64 0,.slice none 0 0,.slice none 0 0] 171);rw[I]at J;have HB:=hid hB;have ak:=hid ah;clear hB ah;go_enter Tryz.func120,Tryz.ntmps120
 go_wp2_with fail
 generalize w.alloc (.cells #[.int .i64 0,.int .i64 0,.int .i64 0,.int .i64 0,.int .u32 0,.int .u64 0,.int .u32 0,.int .i64 0,.int .i64 0,.slice none 0 0,.slice none 0 0] 171)=wA at*;refine(qcZ big Z bv wA (HB.out.below (I▸X)) ak.out).mono ?_;rintro e O ⟨⟨sa,pe,rfl,o1,o2⟩,G⟩;obtain⟨cs,aa,ab⟩:=qhT o1 o2;rw[aa];have aj:q<wA.heap.size:=(Ai J).1;have an:=G.size;have ac:=qg J G;have ai:Below q w O:=X.trans (G.mono (by omega));have Y:=ab.mono (b':=q) (w':=O) (by omega) (fun _ _ _=>rfl);have ad:=hid ac;have ag:=hid ai;have o:=hid Y;clear o1 o2 aa G ab ac ai X J Y;go_upto_region 2 with((with_reducible show wpList _ _ _ (Oper.mk none (Op.store 171 (Operand.tmp 6) _) _ _ _ _::_) _ _);refine wpList_store_row rfl 171 _ _ rfl O.heap.size cs rfl rfl 171 _ (Wn _ _) (by rw[o.out.1];kernel_rfl) (by rw[o.out.1];rfl) o.out.2.1 ?_)
 refine qm ?_;intro W V;obtain⟨p6,U⟩:=Ex O.heap.size;have r6:W.heap[p6]? =some (.cells cs 171 (0,0)):=by rw[V,←U];exact setRow_heap _ _ _ _ _ _ (Wn _ _)
 have r0:W.heap[q]? =some (.cells #[.int .i64 0,.int .i64 0,.int .i64 0,.int .i64 0,.int .u32 0,.int .u64 0,.int .u32 0,.int .i64 0,.int .i64 0,.slice none 0 0,.slice none 0 0] 171 (0,0)):=by rw[V];exact(setRow_other (O.alloc _) _ _ _ (by omega)).trans ((Bh _ _ _ (by omega)).trans ad.out)
 have ae:Below q w W:=by rw[V];exact below_setRow (ag.out.alloc (by omega) _) (by omega) _
 have af:DecIs big Z q W cs:=o.out.mono Nl (fun g hg al=>by rw[V];exact(setRow_other (O.alloc _) _ _ _ (by omega)).trans (Bh _ _ _ al));rw[U];have ao:q<p6:=by omega
 have ap:p6<W.heap.size:=(Ai r6).1;clear V U ad ag o an aj;have R6:=hid r6;have R0:=hid r0;have am:=hid ae;have D:=hid af;clear r6 r0 ae af;go_wp2_with (first|((with_reducible show wpList _ _ _ (Oper.mk (some 22) _ _ _ _ _::_) _ _);refine wpList_load_row rfl 171 _ rfl p6 rfl _ _ _ _ R6.out Tryz.underlying171 rfl (by rw[D.out.1];kernel_rfl) ?_)|((with_reducible show wpList _ _ _ (Oper.mk none (Op.store 171 (Operand.tmp 4) _) _ _ _ _::_) _ _);refine wpList_store_row rfl 171 _ _ rfl q cs rfl rfl 171 _ R0.out (by rw[D.out.1];kernel_rfl) (by rw[D.out.1];rfl) D.out.2.1 ?_))
 exact Bp (qE rfl _ _ q 171 _ _ _ rfl (setRow_heap _ _ _ _ _ _ R0.out) Tryz.underlying171 rfl (by rw[D.out.1];kernel_rfl)) rfl (show qcH _ _ _ _ _ from⟨⟨cs,rfl,qgS D.out R0.out (by omega)⟩,by rw[I];exact below_setRow am.out Nl _⟩)
def TreeV.vN (t:TreeV)(row at_:Nat)(f:Nat):Nat:=
 if f=1 then t.d.toNat else if f=2 then t.kl else if f=3 then t.f.toNat else if f=4 then t.p.toNat else if f=5 then t.l.toNat else if f=6 then at_ else if f=8 then row else if f=9 then t.i.toNat else 0
def TreeV.big (t:TreeV):Bool:=decide (t.k=1)
theorem yQ {t:TreeV}(h:t.validE=0):kB t.big=t.k:=by
 have:=(qq h).1
 unfold TreeV.big kB;rcases this with e|e<;>rw[e]<;>rfl
theorem yz {t:TreeV}(h:t.validE=0):((mB t.big:Nat):Int)=zt t.k∧((sB t.big:Nat):Int)=jJ t.k:=by
 have:=(qq h).1
 unfold TreeV.big mB sB zt jJ;rcases this with e|e<;>rw[e]<;>exact⟨rfl,rfl⟩
theorem qaG {t:TreeV}(h:t.validE=0)(O:0≤t.l∧t.l≤4294967295){row at_:Nat}(hr:row≤255)(J:at_<281474976710656):ParOk t.big (t.vN row at_):=by
 obtain⟨h1,q,G,Y,U,D,X,I,V,o, -, -⟩:=qq h;obtain⟨Z, -⟩:=yz h;refine⟨⟨?_,?_,?_,?_,⟨?_,fun _=>?_⟩,?_,?_⟩,?_,?_,rfl⟩;all_goals simp only[TreeV.vN,if_true,if_false,Nat.reduceEqDiff]
 all_goals omega
def TreeV.blk (t:TreeV)(z1 z2:List Int)(row at_:Nat):List Int:=QR t.big (t.vN row at_) z1 z2
theorem TreeV.parN {t:TreeV}(h:t.validE=0)(V:0≤t.l∧t.l≤4294967295)(row at_:Nat)(q o:Value):
  parN (t.vN row at_) q o= .agg #[.int .i64 t.d,.int .i64 (t.kl:Nat),.int .i64 t.f,.int .i64 t.p,.int .u32 t.l,.int .u64 (at_:Nat),.int .u32 0,.int .i64 (row:Nat),.int .i64 t.i,q,o]:=by
 obtain⟨h1,I,O,h4,X,J,Z,U,Y,G, -, -⟩:=qq h;have e: ∀z:Int,0≤z→((z.toNat:Nat):Int)=z:=fun z D=>Int.toNat_of_nonneg D
 unfold Go.Proofs.YthjoojnlnlmljaaGreat.parN yT;simp only[TreeV.vN,if_true,if_false,Nat.reduceEqDiff];rw[e t.d (by omega),e t.f (by omega),e t.p (by omega),e t.l (by omega),e t.i (by omega)];rfl
theorem Yg {W:World}{B n g:Nat}{v:Value}{I:List Value}{c:Array Value}{T:TypeId}{fr:Nat×Nat}(h:W.ownsRow B 5 1 v n I)(V:W.heap[g]? =some (.cells c T fr))(o:Nat)(u:Value)(O:T≠5):(W.setCell ⟨g,o,none⟩ u).ownsRow B 5 1 v n I:=by
 refine⟨h.1,?_⟩;rcases h.2 with q|⟨U,G,D,e,X,q,J⟩
 ·exact .inl q
 ·refine .inr ⟨U,G,D,e,X,?_,J⟩;rw[heap_setCell_other W _ _ _ ?_];exact q;rintro rfl
  rw[V]at q;simp only[Option.some.injEq,Obj.cells.injEq]at q;exact O q.2.1
def TreeV.outN (t:TreeV)(rt:Bool):Int:=if rt then t.d else t.i
def Z1 (row:Nat)(kz:List Int):List Int:=if row=0 then kz else []
end Go.Proofs.YthjoojnlnlmljaaGreat
