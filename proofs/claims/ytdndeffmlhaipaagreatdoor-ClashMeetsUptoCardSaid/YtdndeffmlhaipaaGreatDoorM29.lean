/- A block of parameters out of its numbers, by the program. No condition. -/
import Derived.Test.YtdndeffmlhaipaaGreatDoorM27
import Derived.Test.YtdndeffmlhaipaaGreatDoorM18
import Derived.Test.YtdndeffmlhaipaaGreatDoorM28
import Derived.Test.YtdndeffmlhaipaaGreatDoorM19
import Derived.Test.YtdndeffmlhaipaaGreatDoorM26
import Derived.Test.YtdndeffmlhaipaaGreatDoorM04
import Derived.Great.BuildSlice
import Derived.Laws.CopyOwn
import Derived.Test.YtdndeffmlhaipaaGreatDoorM14
import Derived.Test.YtdndeffmlhaipaaGreatDoorM23
import Derived.Maps.AppendAt
set_option linter.all false
set_option maxRecDepth 100000
set_option maxHeartbeats 8000000
namespace Go.Proofs.YtdndeffmlhaipaaGreatDoor
open Go.ChangeShapes Go.WideShapes Go.ChangeAt Go.RowKit Go.Joins Go.Shelf Go.Maps
open Go.Lib (hid)
attribute [local go_sem] Oper.semAt_some
theorem qdy {big:Bool}{v:Nat→Nat}(hP:ParOk big v)(a1 a2:Option Addr){l1 l2:Nat}(c1 c2:Nat)(hl1:l1≤sB big)(hl2:l2≤sB big)(w:World):
  Calls Tryz.prog 53 #[.int .i64 (kB big),parN v (.slice a1 l1 c1) (.slice a2 l2 c2)] w fun e w'=>e= .returned (.int .i64 0)∧Below w.heap.size w w':=by
 unfold parN;rw[hP.x0];exact Ju big _ _ _ _ _ _ _ _ a1 a2 l1 l2 c1 c2 w hP.p hl1 hl2
theorem qdt (big:Bool)(v:Nat→Nat)(z1 z2:List Int)(sa pe:Value)(w:World)(hP:ParOk big v)(h1:Hold w sa z1)(h2:Hold w pe z2)(hl1:z1.length≤sB big)(hl2:z2.length≤sB big):
  Calls Tryz.prog 65 #[.int .i64 (kB big),parN v sa pe] w fun e w'=>(∃r,e= .returned (.tuple #[r,.int .i64 0])∧w'.ownsRow w.heap.size 5 1 r (mB big) ((Zv big v z1 z2).map qv))∧Below w.heap.size w w':=by
 obtain⟨a1,c1,rfl,hx1,hx2⟩:=h1.slice;obtain⟨a2,c2,rfl,hx3,hx4⟩:=h2.slice;obtain⟨i0,hi,hz0,hz1,hz2⟩:=info_parts QH;obtain⟨b0,hb0⟩:=Ex w.heap.size;have HCK:=hid (qdy hP a1 a2 c1 c2 hl1 hl2);have hbA:Below b0 w (w.alloc (.cells #[.int .i64 (v 1:Nat),.int .i64 (v 2:Nat),.int .i64 (v 3:Nat),.int .i64 (v 4:Nat),.int .u32 (v 5:Nat),.int .u64 (v 6:Nat),.int .u32 (v 7:Nat),.int .i64 (v 8:Nat),.int .i64 (v 9:Nat),.slice a1 z1.length c1,.slice a2 z2.length c2] 72)):=by rw[←hb0];exact Br.alloc Nl _
 have hrA:=Wn w (.cells #[.int .i64 (v 1:Nat),.int .i64 (v 2:Nat),.int .i64 (v 3:Nat),.int .i64 (v 4:Nat),.int .u32 (v 5:Nat),.int .u64 (v 6:Nat),.int .u32 (v 7:Nat),.int .i64 (v 8:Nat),.int .i64 (v 9:Nat),.slice a1 z1.length c1,.slice a2 z2.length c2] 72);rw[hb0]at hrA;have HH1:=hid h1;have HH2:=hid h2;have HHP:=hid hP;have HL1:=hid hl1;have HL2:=hid hl2;clear hP h1 h2 hl1 hl2 hx1 hx2 hx3 hx4;unfold parN Zo;unfold parN Zo at HCK;go_enter Tryz.func65,Tryz.ntmps65
 go_upto_region 1 with(fail)
 generalize w.alloc (.cells #[.int .i64 (v 1:Nat),.int .i64 (v 2:Nat),.int .i64 (v 3:Nat),.int .i64 (v 4:Nat),.int .u32 (v 5:Nat),.int .u64 (v 6:Nat),.int .u32 (v 7:Nat),.int .i64 (v 8:Nat),.int .i64 (v 9:Nat),.slice a1 z1.length c1,.slice a2 z2.length c2] 72)=wA at*;go_wp2_with ((with_reducible show wpList _ _ _ (Oper.mk _ (Op.load 72 _) _ _ _ _::_) _ _);refine wpList_load_row rfl 72 _ rfl b0 rfl _ _ _ _ hrA Tryz.underlying72 rfl (by kernel_rfl) ?_)
 refine(HCK.out wA).mono ?_;rintro e w1 ⟨rfl,hb1⟩;have hr1:=qb hrA hb1;have hs1:=hb1.size;have hb0A:b0<wA.heap.size:=(Ai hrA).1;have hb01:b0<w1.heap.size:=by omega
 have HR1:=hid hr1;have HBB:=hid (show Below b0 w w1 from hbA.trans (hb1.mono (by omega)));clear hb1 hbA hrA hr1 hs1 hb0A HCK;go_wp2_with fail
 refine(za big _).mono ?_;rintro e w2 ⟨rfl,hw⟩;rw[hw];clear hw w2;obtain⟨M,hM⟩:=Ex (mB big);obtain⟨S,hS⟩:=Ex (sB big);have hMS:4*S=M:=by rw[←hM,←hS];cases big<;>rfl
 have hS8:8≤S∧S≤16:=by rw[←hS];cases big<;>decide
 rw[hM,hS];have hmk:=fun W:World=>run_make (P:=Tryz.prog) W 24 5 i0 (.int .u8 0) Tryz.underlying24 hi hz0 .i64 .i64 M M (by omega) (by omega) (by rw[hz2];omega) (by omega)
 simp only[hz1]at hmk;go_wp2_with fail
 obtain⟨g,hg⟩:=Ex w1.heap.size;have hmc:madeCells #[.int .u8 0] M=((List.replicate M (0:Int)).map qv).toArray:=by
  apply Array.toList_inj.1
  rw[toList_madeCells_one];simp[qv]
 have hg5:RowB (w1.alloc (.cells (madeCells #[.int .u8 0] M) 5)) g (QV big (v 7==0) v 0):=by
  unfold RowB;rw[hmc,←hg,←hM];exact Wn _ _
 have hb5:Below b0 w (w1.alloc (.cells (madeCells #[.int .u8 0] M) 5)):=HBB.out.alloc (by omega) _;have hr5:(w1.alloc (.cells (madeCells #[.int .u8 0] M) 5)).heap[b0]? =some (.cells #[.int .i64 (v 1:Nat),.int .i64 (v 2:Nat),.int .i64 (v 3:Nat),.int .i64 (v 4:Nat),.int .u32 (v 5:Nat),.int .u64 (v 6:Nat),.int .u32 (v 7:Nat),.int .i64 (v 8:Nat),.int .i64 (v 9:Nat),.slice a1 z1.length c1,.slice a2 z2.length c2] 72 (0,0)):=by
  rw[Bh _ _ _ (by omega)];exact HR1.out
 have hs5:(w1.alloc (.cells (madeCells #[.int .u8 0] M) 5)).heap.size=g+1:=by simp[hg]
 rw[hg];generalize w1.alloc (.cells (madeCells #[.int .u8 0] M) 5)=w5 at*;refine(qdS big _).mono ?_;rintro e w6 ⟨⟨rb,rfl,hrb,hrows⟩,hb6⟩;have hs6:=hb6.size;have HG6:=hid (show RowB w6 g (QV big (v 7==0) v 0) from(hb6.block g (by omega)).trans hg5);have HR6:=hid ((hb6.block b0 (by omega)).trans hr5);have HB6:=hid (show Below b0 w w6 from hb5.trans (hb6.mono (by omega)));obtain⟨cur,hcur,hrow⟩:=hrows;have hrb6:rb<w6.heap.size:=(Ai hcur).1;have HCUR:=hid hcur;have HROW:=hid hrow;have hgb:b0<g∧g<rb:=by omega
 clear hg5 hr5 hb5 hb6 hcur hrow hmc hmk HR1 HBB hs5;go_wp2_with fail
 go_loopw [30] (fun i wr=> ∃k:Nat,i= .int .i64 (k:Nat)∧k≤9∧RowB wr g (QV big (v 7==0) v k)∧But g w6 wr) (fun i _=>9 - (intOf i).toNat)
 case atStart=>exact⟨0,rfl,by omega,HG6.out,But.refl _ _⟩
 case round=>
  obtain⟨k,rfl,hk,hrow,hb⟩:=hrel;have HW:=hid hrow;have HB:=hid hb;have hsz:=hb.size;have hlen:=yI big (v 7==0) v k hk;have hpr:wr.heap[b0]? =some (.cells #[.int .i64 (v 1:Nat),.int .i64 (v 2:Nat),.int .i64 (v 3:Nat),.int .i64 (v 4:Nat),.int .u32 (v 5:Nat),.int .u64 (v 6:Nat),.int .u32 (v 7:Nat),.int .i64 (v 8:Nat),.int .i64 (v 9:Nat),.slice a1 z1.length c1,.slice a2 z2.length c2] 72 (0,0)):=(hb.block b0 (by omega) (by omega)).trans HR6.out;by_cases hlt:k<9
  case pos=>
   obtain⟨nm,why,q0,q1,q2,q3,q4,q5,q6⟩:=HROW.out k hlt;have HCR:=hid ((hb.block rb (by omega) (by omega)).trans HCUR.out);have HQ:=hid (show ∀j,j<5→cur[k*5+j]? =(#[.int .i64 ((k+1:Nat):Int),.int .i64 (atB big (k+1):Nat),.int .i64 (szB big (k+1):Nat),nm,why]:Array Value)[j]? from fun j hj=>by
    rcases(show j=0∨j=1∨j=2∨j=3∨j=4 by omega)with rfl|rfl|rfl|rfl|rfl
    ·exact q0
    ·exact q1
    ·exact q2
    ·exact q3
    ·exact q4)
   have H1:=hid (show(#[.int .i64 ((k+1:Nat):Int),.int .i64 (atB big (k+1):Nat),.int .i64 (szB big (k+1):Nat),nm,why]:Array Value).all (·.oneCell')=true by simp only[List.all_toArray,List.all_cons,List.all_nil,q5,q6];rfl);have hk9:(k:Int)<9:=by omega
   have HPR:=hid hpr;clear q0 q1 q2 q3 q4 q5 q6 hrow hb hpr;go_upto_region 9 with(first|((with_reducible show wpList _ _ _ (Oper.mk _ (Op.load 107 _) _ _ _ _::_) _ _);refine wpList_plain rfl fun K hK=>qF 107 _ rfl rb (k*5) (by kernel_rfl) 107 cur #[.int .i64 ((k+1:Nat):Int),.int .i64 (atB big (k+1):Nat),.int .i64 (szB big (k+1):Nat),nm,why] (0,0) _ HCR.out Tryz.underlying107 rfl (by kernel_rfl) HQ.out (hK _ _ ?_))|((with_reducible show wpList _ _ _ (Oper.mk none (Op.store 107 _ _) _ _ _ _::_) _ _);refine wpList_store_row rfl 107 _ _ rfl wr.heap.size #[.int .i64 ((k+1:Nat):Int),.int .i64 (atB big (k+1):Nat),.int .i64 (szB big (k+1):Nat),nm,why] rfl rfl 107 _ (Wn _ _) (by kernel_rfl) rfl H1.out ?_))
   refine qj ?_;intro Wq hWq;obtain⟨q,hq⟩:=Ex wr.heap.size;have r12:Wq.heap[q]? =some (.cells #[.int .i64 ((k+1:Nat):Int),.int .i64 (atB big (k+1):Nat),.int .i64 (szB big (k+1):Nat),nm,why] 107 (0,0)):=by rw[hWq,←hq];exact setRow_heap _ _ _ _ _ _ (Wn _ _)
   have hbq:Below q wr Wq:=by rw[hWq,←hq];exact below_setRow (Br.alloc Nl _) Nl _
   rw[hq];have hgq:g<q∧b0<q:=by omega
   have hBq:But g w6 Wq:=HB.out.trans ⟨hbq.os,hbq.tape,hbq.output,hbq.size,fun j hj _=>hbq.block j (by omega)⟩;have HGq:=hid (show RowB Wq g (QV big (v 7==0) v k) from(hbq.block g (by omega)).trans HW.out);have HPq:=hid ((hbq.block b0 (by omega)).trans HPR.out);have HR12:=hid r12;have HBq:=hid hBq;have hqs:q<Wq.heap.size:=(Ai r12).1;have c0:Wq.cell? ⟨q,0,none⟩=some (.int .i64 ((k+1:Nat):Int)):=qa r12 0;clear hWq hq HCR HQ H1 HW HB HPR r12 hbq hBq;by_cases h7:k=6
   case pos=>
    subst h7;have c6:Wq.cell? ⟨b0,6,none⟩=some (.int .u32 (v 7:Nat)):=qa HPq.out 6;have hb0q:b0<Wq.heap.size:=by omega
    have hq0:((v 7:Int)==0)=true:=by rw[HHP.out.x0];rfl
    go_wp2
    refine⟨⟨7,rfl,by omega,?_,HBq.out⟩,by simp[intOf]⟩;have e:QV big (v 7==0) v 7=QV big (v 7==0) v 6:=by rw[QV,if_pos ⟨rfl,by rw[HHP.out.x0];rfl⟩]
    rw[e];exact HGq.out
   have h8: ¬((k:Int)=6):=by omega
   have hszk:szB big (k+1)≤8∧atB big (k+1)+szB big (k+1)≤M:=by
    rw[←hM];rcases(show k=0∨k=1∨k=2∨k=3∨k=4∨k=5∨k=6∨k=7∨k=8 by omega)with rfl|rfl|rfl|rfl|rfl|rfl|rfl|rfl|rfl<;>cases big<;>decide
   have HSZ:=hid hszk;go_upto_region 10 with(fail)
   refine qA (n:=9) (w0:=Wq) (B:=Wq.heap.size) [.v 42 (.slice (some ⟨g,0,none⟩) M M),.v 43 (.pointer (some ⟨q,1,none⟩)),.v 44 (.int .i64 (atB big (k+1):Nat)),.v 45 (.pointer (some ⟨q,2,none⟩)),.v 46 (.int .i64 (szB big (k+1):Nat)),.v 47 (.agg #[.int .i64 (v 1:Nat),.int .i64 (v 2:Nat),.int .i64 (v 3:Nat),.int .i64 (v 4:Nat),.int .u32 (v 5:Nat),.int .u64 (v 6:Nat),.int .u32 (v 7:Nat),.int .i64 (v 8:Nat),.int .i64 (v 9:Nat),.slice a1 z1.length c1,.slice a2 z2.length c2]),.v 48 (.pointer (some ⟨q,0,none⟩)),.v 49 (.int .i64 ((k+1:Nat):Int)),.v 50 (.int .u64 (v (k+1):Nat))] trivial Br.drew Nl ?_ ?_
   ·repeat' (with_reducible first|exact qt|refine qn ?_ ?_)
    all_goals try
     intro A x W hA hW hBW hdep D K hK;have a10:=hA.2 10 (by decide);conv at a10=>rhs;whnf
     have a12:=hA.2 12 (by decide);conv at a12=>rhs;whnf
     simp only[QI,QU]at D;clear hdep hA;have y:=qb HR12.out hW;have y0:W.cell? ⟨q,0,none⟩=some (.int .i64 ((k+1:Nat):Int)):=qa y 0;have y1:W.cell? ⟨q,1,none⟩=some (.int .i64 (atB big (k+1):Nat)):=qa y 1;have y2:W.cell? ⟨q,2,none⟩=some (.int .i64 (szB big (k+1):Nat)):=qa y 2;have y3:q<W.heap.size:=by omega
     go_simp
     exact hK _ _ BR rfl
    ·intro A x W hA hW hBW hdep _ K hK;have a3:=hA.2 3 (by decide);conv at a3=>rhs;whnf
     clear hdep hA;exact qF 72 _ rfl b0 0 a3 72 #[.int .i64 (v 1:Nat),.int .i64 (v 2:Nat),.int .i64 (v 3:Nat),.int .i64 (v 4:Nat),.int .u32 (v 5:Nat),.int .u64 (v 6:Nat),.int .u32 (v 7:Nat),.int .i64 (v 8:Nat),.int .i64 (v 9:Nat),.slice a1 z1.length c1,.slice a2 z2.length c2] #[.int .i64 (v 1:Nat),.int .i64 (v 2:Nat),.int .i64 (v 3:Nat),.int .i64 (v 4:Nat),.int .u32 (v 5:Nat),.int .u64 (v 6:Nat),.int .u32 (v 7:Nat),.int .i64 (v 8:Nat),.int .i64 (v 9:Nat),.slice a1 z1.length c1,.slice a2 z2.length c2] (0,0) _ (qb HPq.out hW) Tryz.underlying72 rfl (by kernel_rfl) (fun j _=>by rw[Nat.zero_add]) (hK _ _ BR rfl)
    ·intro A x W hA hW hBW hdep _ K hK;have g47:=gv hA hdep 5 47;have g49:=gv hA hdep 7 49;clear hdep hA;go_simp
     refine(show Calls Tryz.prog 84 #[.agg #[.int .i64 (v 1:Nat),.int .i64 (v 2:Nat),.int .i64 (v 3:Nat),.int .i64 (v 4:Nat),.int .u32 (v 5:Nat),.int .u64 (v 6:Nat),.int .u32 (v 7:Nat),.int .i64 (v 8:Nat),.int .i64 (v 9:Nat),.slice a1 z1.length c1,.slice a2 z2.length c2],.int .i64 ((k+1:Nat):Int)] W _ from qdJ HHP.out (.slice a1 z1.length c1) (.slice a2 z2.length c2) (k+1) (by omega) (by omega) W).mono ?_;rintro r w3 ⟨rfl,hb3⟩
     exact hK _ _ hb3 rfl
   intro x W hW hBW hall;clear hall;refine qh ?_;simp only[Qi,Act.put,Ls];have HGW:=hid (show RowB W g (QV big (v 7==0) v k) from(hW.block g (by omega)).trans HGq.out);have HBW:=hid (show But g w6 W from HBq.out.trans ⟨hW.os,hW.tape,hW.output,hW.size,fun j hj _=>hW.block j (by omega)⟩);clear c0 hW hBW HGq HPq HR12 HBq hqs;go_wp2_with fail
   refine(qfe (QV big (v 7==0) v k) g M M (atB big (k+1)) (szB big (k+1)) HSZ.out.1 (by rw[hlen,hM];exact HSZ.out.2) (by rw[hlen,hM]) Nl (by omega) (v (k+1)) (HHP.out.le (k+1) (by omega) (by omega)) W HGW.out).mono ?_;rintro r w4 ⟨rfl,hl1,hl2⟩;have HL1:=hid hl1;have HL2:=hid hl2;clear hl1 hl2;go_wp2_with fail
   refine qo ?_;go_wp2
   refine⟨⟨k+1,rfl,by omega,?_,HBW.out.trans HL2.out⟩,by simp[intOf];omega⟩;have e:QV big (v 7==0) v (k+1)=QN (QV big (v 7==0) v k) (atB big (k+1)) (Qg (v (k+1)) (szB big (k+1))):=by rw[QV,if_neg (fun h=>h7 (by omega))]
   rw[e];exact HL1.out
  obtain rfl:k=9:=by omega
  clear hlt hk;have HBL:=hid (show Zv big v z1 z2=QN (QN (QV big (v 7==0) v 9) (2*S) z1) (3*S) z2 by rw[←hS];rfl);have hE:(QV big (v 7==0) v 9).length=M:=hlen.trans hM;obtain⟨E,hEE⟩: ∃E,QV big (v 7==0) v 9=E:=⟨_,rfl⟩;rw[hEE]at hE HBL HW;clear hrow hb hlen hEE;obtain⟨S2,hS2⟩:=Ex (2*S);obtain⟨S3,hS3⟩:=Ex (3*S);rw[hS2,hS3]at HBL;have e2:(M:Int) - 2*(S:Int)=(S2:Int):=by omega
  have e3:(M:Int) - (S:Int)=(S3:Int):=by omega
  have hlz1:z1.length≤S:=by have:=HL1.out;omega
  have hlz2:z2.length≤S:=by have:=HL2.out;omega
  have hSS:S2+S≤M∧S3+S≤M∧S2<M∧S3<M∧S≤16∧M≤64:=by omega
  have HSS:=hid hSS;have HZ1:=hid hlz1;have HZ2:=hid hlz2;have HE:=hid hE;have hn2: ¬(M=S2):=by omega
  have hn3: ¬(M=S3):=by omega
  have k2:(S2:Int)≤(M:Int):=by omega
  have k3:(S3:Int)≤(M:Int):=by omega
  have HPR:=hid hpr;have hb0r:b0<wr.heap.size∧g<wr.heap.size:=by omega
  have w1':IntKind.i64.wrap (2*(S:Int))=2*(S:Int):=by rw[IntKind.wrap_i64];omega
  have w2':IntKind.i64.wrap (S2:Int)=(S2:Int):=by rw[IntKind.wrap_i64];omega
  have w3':IntKind.i64.wrap (S3:Int)=(S3:Int):=by rw[IntKind.wrap_i64];omega
  have HBr:=hid (show Below b0 w wr from HB6.out.trans (HB.out.below (by omega) (by omega)));clear hMS hS8 hlz1 hlz2 hSS hS2 hS3 hE hpr hsz;go_upto_region 12 with(fail)
  refine qA (n:=8) (w0:=wr) (B:=wr.heap.size) [.v 53 (.slice (some ⟨g,0,none⟩) M M),.v 54 (.int .i64 M),.v 55 (.int .i64 S),.v 56 (.int .i64 (2*(S:Int))),.v 57 (.int .i64 S2),.v 58 (.slice (some ⟨g,S2,none⟩) (M - S2) (M - S2)),.v 59 (.pointer (some ⟨b0,9,none⟩)),.v 60 (.slice a1 z1.length c1)] trivial Br.drew Nl ?_ ?_
  ·repeat' (with_reducible first|exact qt|refine qn ?_ ?_)
   all_goals
    intro A x W hA hW hBW hdep D K hK;have a3:=hA.2 3 (by decide);conv at a3=>rhs;whnf
    have a10:=hA.2 10 (by decide);conv at a10=>rhs;whnf
    have a7:=hA.2 7 (by decide);conv at a7=>rhs;whnf
    have a9:=hA.2 9 (by decide);conv at a9=>rhs;whnf
    simp only[QI,QU]at D;clear hdep hA;have y:=qb HPR.out hW;have y0:W.cell? ⟨b0,9,none⟩=some (.slice a1 z1.length c1):=qa y 9;have y3:b0<W.heap.size:=by omega
    go_simp
    exact hK _ _ BR rfl
  intro x W hW hBW hall;clear hall;refine qh ?_;simp only[Qi,Act.put,Ls];have hBW1:Below b0 w W:=HBr.out.trans (hW.mono (by omega));have hs1:=(HH1.out.below (hb0▸hBW1)).src;have hg1:W.heap[g]? =some (.cells (E.map qv).toArray 5 (0,0)):=(hW.block g (by omega)).trans HW.out;have HPW1:=hid (qb HPR.out hW);have hl1:S2+z1.length≤(E).length:=by have:=HSS.out;have:=HZ1.out;have:=HE.out;omega
  have HLL1:=hid hl1;have HBW1:=hid hBW1;refine wpList_copy_splice rfl _ _ _ _ rfl 5 Tryz.underlying24 (by rw[hi];simp[hz1]) _ _ _ _ _ _ rfl rfl g S2 (E.map qv) 5 hg1 (z1.map qv) (by rw[List.length_map];have:=HSS.out;have:=HZ1.out;exact(Nat.min_eq_left (by omega)).symm) (fun h0=>⟨rfl,by
   rcases hs1.2.2 with⟨-,h2⟩|⟨ad,c,e,h2⟩
   ·rw[List.length_map]at h0;omega
   ·simp only[Value.slice.injEq]at e;exact⟨ad,e.1,h2⟩⟩) (by rw[List.length_map,List.length_map];exact hl1) hs1.2.1 g W Br Nl ?_
  intro V1 hgx hbx;have HGV1:=hid (show RowB V1 g (QN E S2 z1) from hgx.out.trans (by unfold splice QN;simp[List.append_assoc]));have HBV1:=hid (show Below b0 w V1 from HBW1.out.trans (hbx.mono (by omega)));have HPV1:=hid ((hbx.block b0 (by omega)).trans HPW1.out);have hgV1:b0<V1.heap.size∧g<V1.heap.size:=by have:=hbx.size;omega
  clear hs1 hg1 hl1 hgx hbx HPW1 HBW1 hBW1 hW hBW;go_wp2_with fail
  refine qo ?_;go_upto_region 13 with(fail)
  refine qA (n:=7) (w0:=V1) (B:=V1.heap.size) [.v 62 (.slice (some ⟨g,0,none⟩) M M),.v 63 (.int .i64 M),.v 64 (.int .i64 S),.v 65 (.int .i64 S3),.v 66 (.slice (some ⟨g,S3,none⟩) (M - S3) (M - S3)),.v 67 (.pointer (some ⟨b0,10,none⟩)),.v 68 (.slice a2 z2.length c2)] trivial Br.drew Nl ?_ ?_
  ·repeat' (with_reducible first|exact qt|refine qn ?_ ?_)
   all_goals
    intro A x W hA hW hBW hdep D K hK;have a3:=hA.2 3 (by decide);conv at a3=>rhs;whnf
    have a10:=hA.2 10 (by decide);conv at a10=>rhs;whnf
    have a7:=hA.2 7 (by decide);conv at a7=>rhs;whnf
    have a9:=hA.2 9 (by decide);conv at a9=>rhs;whnf
    simp only[QI,QU]at D;clear hdep hA;have y:=qb HPV1.out hW;have y0:W.cell? ⟨b0,10,none⟩=some (.slice a2 z2.length c2):=qa y 10;have y3:b0<W.heap.size:=by omega
    go_simp
    exact hK _ _ BR rfl
  have hE1:(QN E S2 z1).length=M:=by rw[QM HLL1.out];exact HE.out
  have HE1:=hid hE1;clear hE1;intro x W hW hBW hall;clear hall;refine qh ?_;simp only[Qi,Act.put,Ls];have hBW2:Below b0 w W:=HBV1.out.trans (hW.mono (by omega));have hs2:=(HH2.out.below (hb0▸hBW2)).src;have hg2:W.heap[g]? =some (.cells ((QN E S2 z1).map qv).toArray 5 (0,0)):=(hW.block g (by omega)).trans HGV1.out;have HPW2:=hid (qb HPV1.out hW);have hl2:S3+z2.length≤((QN E S2 z1)).length:=by have:=HSS.out;have:=HZ2.out;have:=HE1.out;omega
  have HLL2:=hid hl2;have HBW2:=hid hBW2;refine wpList_copy_splice rfl _ _ _ _ rfl 5 Tryz.underlying24 (by rw[hi];simp[hz1]) _ _ _ _ _ _ rfl rfl g S3 ((QN E S2 z1).map qv) 5 hg2 (z2.map qv) (by rw[List.length_map];have:=HSS.out;have:=HZ2.out;exact(Nat.min_eq_left (by omega)).symm) (fun h0=>⟨rfl,by
   rcases hs2.2.2 with⟨-,h2⟩|⟨ad,c,e,h2⟩
   ·rw[List.length_map]at h0;omega
   ·simp only[Value.slice.injEq]at e;exact⟨ad,e.1,h2⟩⟩) (by rw[List.length_map,List.length_map];exact hl2) hs2.2.1 g W Br Nl ?_
  intro V2 hgx hbx;have HGV2:=hid (show RowB V2 g (QN (QN E S2 z1) S3 z2) from hgx.out.trans (by unfold splice QN;simp[List.append_assoc]));have HBV2:=hid (show Below b0 w V2 from HBW2.out.trans (hbx.mono (by omega)));have HPV2:=hid ((hbx.block b0 (by omega)).trans HPW2.out);have hgV2:b0<V2.heap.size∧g<V2.heap.size:=by have:=hbx.size;omega
  clear hs2 hg2 hl2 hgx hbx HPW2 HBW2 hBW2 hW hBW;go_wp2_with fail
  refine qo ?_;go_wp2
  go_ret2
  have hbl:=jA (big:=big) (v:=v) HL1.out HL2.out;have hb3:(QN (QN E S2 z1) S3 z2).length=M:=by rw[←HBL.out,hbl,hM]
  refine⟨⟨_,rfl,by rw[List.length_map,hbl];omega,.inr ⟨g,M,_,by rw[hM];rfl,by omega,HGV2.out,by omega,by have:=HSS.out;unfold maxLen;omega,?_,?_⟩⟩,by rw[hb0];exact HBV2.out⟩
  ·rw[List.size_toArray,List.length_map,hb3];omega
  ·rw[←HBL.out];exact List.take_of_length_le (by rw[List.length_map,hbl];omega)
theorem qdk (bs kz:List Int)(dg:Int)(bv kv:Value)(w:World)(hB:Hold w bv bs)(hK:Hold w kv kz)(hl:bs.length=64)(hkl:kz.length≤64):
  Calls Tryz.prog 33 #[.int .i64 1,bv,.int .i64 dg,kv] w fun e w'=> ∃np p hv bv' kv',e= .returned (.pointer (some ⟨np,0,none⟩))∧w.heap.size≤np∧w.heap.size≤p∧w'.heap[np]? =some (.cells (Qm 1 dg bv' kv' false 0 (.iface 153 (.pointer (some ⟨p,0,none⟩)))) 80 (0,0))∧qW true w' p hv (h0Z true bs) (yn 128 kz)∧(∀g,hv.ownBlock=some g→w.heap.size≤g)∧Below w.heap.size w w':=by
 obtain⟨i0,hi,hz0,hz1,hz2⟩:=info_parts QH;obtain⟨b0,hb0⟩:=Ex w.heap.size;have hs1:=hB.src;have hs2:=hK.src;rw[hl]at hs1;have HS1:=hid hs1;have HS2:=hid hs2;have HZ1:=hid hB.1;have HZ2:=hid hK.1;have HL:=hid hl;clear hs1 hs2 hB hK hl;go_enter Tryz.func33,Tryz.ntmps33
 go_upto_region 2 with(first|((with_reducible show wpList _ _ _ (Oper.mk (some 13) _ _ _ _ _::_) _ _);refine qG rfl _ _ _ rfl w w.heap.size rfl Br 5 i0 (.int .u8 0) 1 Tryz.underlying24 hi hz0 hz1 hz2 rfl _ 0 [] rfl (Wo _ _ _ _) bv 64 _ rfl HS1.out (by unfold maxLen;omega) (by omega) ?_;intro v1 w1 ho1 hb1;have HO1:=hid ho1;have HB1:=hid hb1;clear ho1 hb1)|((with_reducible show wpList _ _ _ (Oper.mk (some 15) _ _ _ _ _::_) _ _);refine qG rfl _ _ _ rfl w1 w1.heap.size rfl Br 5 i0 (.int .u8 0) 1 Tryz.underlying24 hi hz0 hz1 hz2 rfl _ 0 [] rfl (Wo _ _ _ _) kv kz.length _ rfl (HS2.out.below HB1.out) (by unfold maxLen;omega) (by omega) ?_;intro v2 w2 ho2 hb2;obtain⟨a1,n1,c1,rfl⟩:=qs HO1.out;obtain⟨a2,n2,c2,rfl⟩:=qs ho2;have HO2:=hid ho2;have HB2:=hid hb2;clear ho2 hb2))
 have hs1:=HB1.out.size;have hs2:=HB2.out.size;have hb3:Below w2.heap.size w2 (w2.alloc (.cells (Qm 1 dg (.slice a1 n1 c1) (.slice a2 n2 c2) false 0 .nilIface) 80)):=Br.alloc Nl _;have hr3:=Wn w2 (.cells (Qm 1 dg (.slice a1 n1 c1) (.slice a2 n2 c2) false 0 .nilIface) 80);have ho1:=HO1.out;have ho2:=HO2.out;simp only[List.nil_append,Nat.zero_add]at ho1 ho2;have ho1:=qf ho1 (fun g _ hg=>HB2.out.block g hg);have hh1:=(Qa ho1 HZ1.out).below hb3;have hh2:=(Qa ho2 HZ2.out).below hb3;have hkn:(Value.slice a2 n2 c2).ownBlock≠some w2.heap.size:=fun e=>by
  rcases ho2.2 with⟨h, -⟩|⟨g,cap,cur,h,h1,h2, -⟩
  ·rw[h]at e;cases e
  ·rw[h]at e;simp only[Value.ownBlock,Option.some.injEq]at e;have:=(Ai h2).1;omega
 have hBG:=qcA bs kz w2.heap.size dg 0 false (.slice a1 n1 c1) (.slice a2 n2 c2) .nilIface _ hr3 hh1 hh2 HL.out hkl hkn;have hbw:Below w.heap.size w (w2.alloc (.cells (Qm 1 dg (.slice a1 n1 c1) (.slice a2 n2 c2) false 0 .nilIface) 80)):=HB1.out.trans ((HB2.out.trans (hb3.mono hs2)).mono hs1);have HBG:=hid hBG;have HBW:=hid hbw;clear hBG hbw hb3 hr3 ho1 ho2 hh1 hh2 hkn HO1 HO2 HB1 HB2;go_wp2_with fail
 refine HBG.out.mono ?_;rintro e w4 ⟨rfl,⟨p,hv,h1,h2,h3,h4⟩,h5⟩;have HF:=hid (show w.heap.size≤p∧w4.heap[w2.heap.size]? =some (.cells (Qm 1 dg (.slice a1 n1 c1) (.slice a2 n2 c2) false 0 (.iface 153 (.pointer (some ⟨p,0,none⟩)))) 80 (0,0))∧qW true w4 p hv (h0Z true bs) (yn 128 kz)∧(∀g,hv.ownBlock=some g→w.heap.size≤g)∧Below w.heap.size w w4 from⟨by have:=HBW.out.size;omega,h2,h3,fun g hg=>by have:=h4 g hg;have:=HBW.out.size;omega,HBW.out.trans (h5.below HBW.out.size (fun k hk=>by omega))⟩);clear h1 h2 h3 h4 h5 HBG HBW;have hs3:w.heap.size≤w2.heap.size:=by omega
 go_wp2
 go_ret
 obtain⟨h1,h2,h3,h4,h5⟩:=HF.out;exact⟨_,p,hv,_,_,rfl,hs3,h1,h2,h3,h4,h5⟩
theorem qcc (bs kz:List Int)(dg:Int)(bv kv:Value)(w:World)(hB:Hold w bv bs)(hK:Hold w kv kz)(hl:bs.length=32)(hkl:kz.length≤32):
  Calls Tryz.prog 33 #[.int .i64 2,bv,.int .i64 dg,kv] w fun e w'=> ∃np p hv bv' kv',e= .returned (.pointer (some ⟨np,0,none⟩))∧w.heap.size≤np∧w.heap.size≤p∧w'.heap[np]? =some (.cells (Qm 2 dg bv' kv' false 0 (.iface 163 (.pointer (some ⟨p,0,none⟩)))) 80 (0,0))∧qW false w' p hv (h0Z false bs) (yn 64 kz)∧(∀g,hv.ownBlock=some g→w.heap.size≤g)∧Below w.heap.size w w':=by
 obtain⟨i0,hi,hz0,hz1,hz2⟩:=info_parts QH;obtain⟨b0,hb0⟩:=Ex w.heap.size;have hs1:=hB.src;have hs2:=hK.src;rw[hl]at hs1;have HS1:=hid hs1;have HS2:=hid hs2;have HZ1:=hid hB.1;have HZ2:=hid hK.1;have HL:=hid hl;clear hs1 hs2 hB hK hl;go_enter Tryz.func33,Tryz.ntmps33
 go_upto_region 2 with(first|((with_reducible show wpList _ _ _ (Oper.mk (some 13) _ _ _ _ _::_) _ _);refine qG rfl _ _ _ rfl w w.heap.size rfl Br 5 i0 (.int .u8 0) 1 Tryz.underlying24 hi hz0 hz1 hz2 rfl _ 0 [] rfl (Wo _ _ _ _) bv 32 _ rfl HS1.out (by unfold maxLen;omega) (by omega) ?_;intro v1 w1 ho1 hb1;have HO1:=hid ho1;have HB1:=hid hb1;clear ho1 hb1)|((with_reducible show wpList _ _ _ (Oper.mk (some 15) _ _ _ _ _::_) _ _);refine qG rfl _ _ _ rfl w1 w1.heap.size rfl Br 5 i0 (.int .u8 0) 1 Tryz.underlying24 hi hz0 hz1 hz2 rfl _ 0 [] rfl (Wo _ _ _ _) kv kz.length _ rfl (HS2.out.below HB1.out) (by unfold maxLen;omega) (by omega) ?_;intro v2 w2 ho2 hb2;obtain⟨a1,n1,c1,rfl⟩:=qs HO1.out;obtain⟨a2,n2,c2,rfl⟩:=qs ho2;have HO2:=hid ho2;have HB2:=hid hb2;clear ho2 hb2))
 have hs1:=HB1.out.size;have hs2:=HB2.out.size;have hb3:Below w2.heap.size w2 (w2.alloc (.cells (Qm 2 dg (.slice a1 n1 c1) (.slice a2 n2 c2) false 0 .nilIface) 80)):=Br.alloc Nl _;have hr3:=Wn w2 (.cells (Qm 2 dg (.slice a1 n1 c1) (.slice a2 n2 c2) false 0 .nilIface) 80);have ho1:=HO1.out;have ho2:=HO2.out;simp only[List.nil_append,Nat.zero_add]at ho1 ho2;have ho1:=qf ho1 (fun g _ hg=>HB2.out.block g hg);have hh1:=(Qa ho1 HZ1.out).below hb3;have hh2:=(Qa ho2 HZ2.out).below hb3;have hkn:(Value.slice a2 n2 c2).ownBlock≠some w2.heap.size:=fun e=>by
  rcases ho2.2 with⟨h, -⟩|⟨g,cap,cur,h,h1,h2, -⟩
  ·rw[h]at e;cases e
  ·rw[h]at e;simp only[Value.ownBlock,Option.some.injEq]at e;have:=(Ai h2).1;omega
 have hBG:=qbD bs kz w2.heap.size dg 0 false (.slice a1 n1 c1) (.slice a2 n2 c2) .nilIface _ hr3 hh1 hh2 HL.out hkl hkn;have hbw:Below w.heap.size w (w2.alloc (.cells (Qm 2 dg (.slice a1 n1 c1) (.slice a2 n2 c2) false 0 .nilIface) 80)):=HB1.out.trans ((HB2.out.trans (hb3.mono hs2)).mono hs1);have HBG:=hid hBG;have HBW:=hid hbw;clear hBG hbw hb3 hr3 ho1 ho2 hh1 hh2 hkn HO1 HO2 HB1 HB2;go_wp2_with fail
 refine HBG.out.mono ?_;rintro e w4 ⟨rfl,⟨p,hv,h1,h2,h3,h4⟩,h5⟩;have HF:=hid (show w.heap.size≤p∧w4.heap[w2.heap.size]? =some (.cells (Qm 2 dg (.slice a1 n1 c1) (.slice a2 n2 c2) false 0 (.iface 163 (.pointer (some ⟨p,0,none⟩)))) 80 (0,0))∧qW false w4 p hv (h0Z false bs) (yn 64 kz)∧(∀g,hv.ownBlock=some g→w.heap.size≤g)∧Below w.heap.size w w4 from⟨by have:=HBW.out.size;omega,h2,h3,fun g hg=>by have:=h4 g hg;have:=HBW.out.size;omega,HBW.out.trans (h5.below HBW.out.size (fun k hk=>by omega))⟩);clear h1 h2 h3 h4 h5 HBG HBW;have hs3:w.heap.size≤w2.heap.size:=by omega
 go_wp2
 go_ret
 obtain⟨h1,h2,h3,h4,h5⟩:=HF.out;exact⟨_,p,hv,_,_,rfl,hs3,h1,h2,h3,h4,h5⟩
def qx (k:Int)(bv kv:Value)(la:Bool)(o:Int)(dv:Value):Array Value:= #[.int .i64 k,bv,kv,.bool la,.int .i64 o,dv]
def Yu (bs kz:List Int):Bool:=decide (kz.length≠0∧(kz.length:Int)≠qp bs 1)
theorem qab (bs kz:List Int):Yu bs kz=(((kz.length:Int) != 0)&&((kz.length:Int) != qp bs 1)):=by
 unfold Yu;rw[Bool.eq_iff_iff];simp only[decide_eq_true_eq,Bool.and_eq_true,bne_iff_ne,ne_eq];omega
theorem qcN {big:Bool}{bs kz:List Int}(h:okD big false bs)(hk:Yu bs kz=false):kz.length≤mB big:=by
 unfold Yu at hk;have h1:=of_decide_eq_false hk;have h2:0≤qp bs 1∧qp bs 1≤(mB big:Nat):=h.2.2.2.2.1;omega
def zw (big:Bool)(bs kz:List Int)(la:Bool)(o:Int)(ds:List Int):List Int:=(zW big (h0Z big bs) (yn (bB big) kz++ds) la).take o.toNat
def qcC (big:Bool)(bs kz:List Int)(la:Bool)(o:Int)(ds:List Int)(w:World)(e:Ending)(w':World):Prop:=
 (∃v,e= .returned (.tuple #[v,.int .i64 0])∧Fresh w.heap.size w' v (zw big bs kz la o ds))∧Below w.heap.size w w'
theorem qcQ {big:Bool}{w w':World}{p q:Nat}{hv:Value}{h0 msg:List Int}{c:Array Value}{T:TypeId}{fr:Nat×Nat}(h:qW big w p hv h0 msg)(hb:But q w w')(hq:w.heap[q]? =some (.cells c T fr))(h1:T≠159)(h2:T≠167)(h3:T≠5):qW big w' p hv h0 msg:=by
 refine⟨?_,yR h.2 hb hq h3⟩;rw[hb.block p (Ai h.1).1 ?_];exact h.1;rintro rfl
 have h4:=h.1;rw[hq]at h4;simp only[Option.some.injEq,Obj.cells.injEq]at h4
 cases big
 ·exact h2 h4.2.1
 ·exact h1 h4.2.1
theorem jx {big:Bool}{w:World}{p q:Nat}{hv:Value}{h0 msg:List Int}{c:Array Value}{T:TypeId}{fr:Nat×Nat}(h:qW big w p hv h0 msg)(hq:w.heap[q]? =some (.cells c T fr))(h3:T≠5):hv.ownBlock≠some q:=fun e=>qca h.2 hq h3 e.symm
theorem qdC (bs kz ds:List Int)(la:Bool)(o:Int)(bv kv dv:Value)(w:World)(hB:Hold w bv bs)(hK:Hold w kv kz)(hD:Hold w dv ds)(hdl:(ds.length:Int)≤140737488355200)(hok:okD true false bs)(hkb0:Yu bs kz=false)(ho:1≤o∧o≤64):
  Calls Tryz.prog 16 #[.agg (qx 1 bv kv la o dv)] w fun e w'=>qcC true bs kz la o ds w e w':=by
 obtain⟨b0,hb0⟩:=Ex w.heap.size;obtain⟨ka,kc,rfl,hkc1,hkc2⟩:=hK.slice;have hbA:Below b0 w (w.alloc (.cells #[.int .i64 1,bv,.slice ka kz.length kc,.bool la,.int .i64 o,dv] 40)):=by rw[←hb0];exact Br.alloc Nl _
 have hrA:=Wn w (.cells #[.int .i64 1,bv,.slice ka kz.length kc,.bool la,.int .i64 o,dv] 40);rw[hb0]at hrA;have hBA:=hB.below (hb0▸hbA);have HB:=hid hB;have HK:=hid hK;have HD:=hid hD;have HDL:=hid hdl;have HOK:=hid hok;have HKB:=hid hkb0;have HO:=hid ho;clear hB hK hD hdl hkc1 hkc2 hok hkb0 ho;show Calls _ _ #[.agg #[.int .i64 1,bv,.slice ka kz.length kc,.bool la,.int .i64 o,dv]] _ _
 go_enter Tryz.func16,Tryz.ntmps16
 go_wp2_with fail
 generalize w.alloc (.cells #[.int .i64 1,bv,.slice ka kz.length kc,.bool la,.int .i64 o,dv] 40)=wA at*;refine(qak true bs bv wA hBA.holds8 hBA.1 (fun a n c e=>by obtain⟨a',c',e',h1,h2⟩:=hBA.slice;rw[e']at e;simp only[Value.slice.injEq]at e;obtain⟨-,rfl,rfl⟩:=e;exact⟨h1,h2⟩) HOK.out).mono ?_;rintro e w1 ⟨⟨fo,dp,lf,ofs,nd,inr,sa,pe,rfl,hsa,hpe⟩,hb1⟩;obtain⟨ky,hky⟩:=Ex (qp bs 1);obtain⟨dg,hdg⟩:=Ex (qp bs 0);rw[hky,hdg];unfold Zo;have hr1:=qb hrA hb1;have hs1:=hb1.size;have hb01:b0<wA.heap.size:=(Ai hrA).1;have hbB:Below b0 w w1:=hbA.trans (hb1.mono (by omega));have HR1:=hid hr1;have HBB:=hid hbB;clear hr1 hbB hb1 hbA hrA hBA;go_upto_if 24 with((with_reducible show wpList _ _ _ (Oper.mk none (Op.store 72 _ _) _ _ _ _::_) _ _);refine wpList_store_row rfl 72 _ _ rfl w1.heap.size #[.int .i64 dg,.int .i64 ky,.int .i64 fo,.int .i64 dp,.int .u32 lf,.int .u64 ofs,.int .u32 0,.int .i64 nd,.int .i64 inr,sa,pe] rfl rfl 72 _ (Wn _ _) (by kernel_rfl) rfl (by simp only[List.all_toArray,List.all_cons,List.all_nil,hsa,hpe];rfl) ?_)
 refine qj ?_;intro W hW;obtain⟨p4,hp4⟩:=Ex w1.heap.size;have hr2:W.heap[p4]? =some (.cells #[.int .i64 dg,.int .i64 ky,.int .i64 fo,.int .i64 dp,.int .u32 lf,.int .u64 ofs,.int .u32 0,.int .i64 nd,.int .i64 inr,sa,pe] 72 (0,0)):=by rw[hW,←hp4];exact setRow_heap _ _ _ _ _ _ (Wn _ _)
 have hr3:W.heap[b0]? =some (.cells #[.int .i64 1,bv,.slice ka kz.length kc,.bool la,.int .i64 o,dv] 40 (0,0)):=by rw[hW];exact(setRow_other (w1.alloc _) _ _ _ (by omega)).trans ((Bh _ _ _ (by omega)).trans HR1.out)
 have hbC:Below b0 w W:=by rw[hW];exact below_setRow (HBB.out.alloc (by omega) _) (by omega) _
 rw[hp4];have hp4b:b0<p4:=by omega
 clear hW hp4 HR1 HBB hs1 hb01;have hWs:p4<W.heap.size:=(Ai hr2).1;have hBW:=HB.out.below (hb0▸hbC);have HR3:=hid hr3;have HBC:=hid hbC;have c40:W.cell? ⟨p4,0,none⟩=some (.int .i64 dg):=qa hr2 0;have c41:W.cell? ⟨p4,1,none⟩=some (.int .i64 ky):=qa hr2 1;have c30:W.cell? ⟨b0,0,none⟩=some (.int .i64 1):=qa hr3 0;have c31:W.cell? ⟨b0,1,none⟩=some bv:=qa hr3 1;have c32:W.cell? ⟨b0,2,none⟩=some (.slice ka kz.length kc):=qa hr3 2;have hb0s:b0<W.heap.size:=(Ai hr3).1;obtain⟨q0,hq0⟩: ∃q,((kz.length:Int) != 0)=q:=⟨_,rfl⟩;obtain⟨q1,hq1⟩: ∃q,((kz.length:Int) != ky)=q:=⟨_,rfl⟩;have hqq:(q0&&q1)=false:=by rw[←hq0,←hq1,←hky];exact(qab bs kz).symm.trans HKB.out
 have hkl:kz.length≤64:=qcN HOK.out HKB.out;clear hr2 hr3 hbC hky hdg hBW;go_upto_region 8 with(fail)
 go_cut [46] from 7 (fun u W'=>u= .bool false∧W=W')
 case first=>
  cases q0<;>cases q1<;>first|(exfalso;cases hqq;done)|skip
  all_goals
   go_wp2
   go_meet
   case rel=>exact⟨rfl,by trivial⟩
 case rest=>
  clear hq0 hq1 c41 hqq;obtain⟨rfl,rfl⟩:=hcut;have hMD:=qdk bs kz dg bv (.slice ka kz.length kc) W (HB.out.below (hb0▸HBC.out)) (HK.out.below (hb0▸HBC.out)) HOK.out.1 hkl;have HMD:=hid hMD;clear hMD;go_wp2_with fail
  refine HMD.out.mono ?_;rintro e w3 ⟨np,p,hv,bv',kv',rfl,m1,m2,m3,m4,m5,m6⟩;have hq3:=qb HR3.out m6;have hb3:Below b0 w w3:=HBC.out.trans (m6.mono (by omega));have hs3:=m6.size;have c43:w3.cell? ⟨b0,3,none⟩=some (.bool la):=qa hq3 3;have c44:w3.cell? ⟨np,4,none⟩=some (.bool false):=qa m3 4;have f44:=frozen_of_row w3 np 4 _ _ m3;have hb0s3:b0<w3.heap.size:=by omega
  have hnps:np<w3.heap.size:=(Ai m3).1;have hpn:b0<np∧b0<p:=by omega
  obtain⟨hpn1,hpn2⟩:=hpn;have hbut:But np w3 (w3.setCell ⟨np,4,none⟩ (.bool la)):=(But.refl np w3).set 4 _;have hn4:=zN (b:=la) m3;have he4:=qcQ m4 hbut m3 (by decide) (by decide) (by decide);have hc4:=(hbut.block b0 hb0s3 (by omega)).trans hq3;have hb4:Below b0 w (w3.setCell ⟨np,4,none⟩ (.bool la)):=hb3.trans (hbut.below (by omega) (by omega));have hpnp:p≠np:=fun e=>by have h1:=m4.1;rw[e,m3]at h1;simp only[cond,Option.some.injEq,Obj.cells.injEq]at h1;exact absurd h1.2.1 (by decide)
  have m5': ∀g,hv.ownBlock=some g→b0<g:=fun g hg=>by have:=m5 g hg;omega
  have HN4:=hid hn4;have HE4:=hid he4;have HC4:=hid hc4;have HB4:=hid hb4;have HM5:=hid m5';have hs4:(w3.setCell ⟨np,4,none⟩ (.bool la)).heap.size=w3.heap.size:=by simp[World.setCell]
  rw[←hs4]at hnps hb0s3;clear hq3 hb3 m1 m2 m3 m4 m5 m5' m6 hbut hn4 he4 hc4 hb4 hs3 hs4 HR3 HBC HMD c30 c31 c32 hb0s c40 hWs;go_upto_region 12 with(fail)
  generalize w3.setCell ⟨np,4,none⟩ (.bool la)=W4 at*;clear c43 c44 f44 w3 W;refine Ql (fun f W=>W.heap[np]? =some (.cells (Qm 1 dg bv' kv' la 0 (.iface 153 (.pointer (some ⟨p,0,none⟩)))) 80 (0,0))∧W.heap[b0]? =some (.cells #[.int .i64 1,bv,.slice ka kz.length kc,.bool la,.int .i64 o,dv] 40 (0,0))∧(f=false→Below W4.heap.size W4 W)∧(f=true→Spare (zE p hv) W4 W∧ ∃hv',qW true W p hv' (h0Z true bs) (yn 128 kz++ds))) 6 [.v 61 (.pointer (some ⟨np,0,none⟩)),.v 62 (.pointer (some ⟨np,0,none⟩)),.v 63 (.pointer (some ⟨np,6,none⟩)),.v 64 (.iface 153 (.pointer (some ⟨p,0,none⟩))),.v 65 (.pointer (some ⟨b0,5,none⟩)),.v 66 dv,.p 67 (fun _ _=>True)] (by exact⟨kW,trivial⟩) ⟨HN4.out,HC4.out,fun _=>Br.drew,fun h=>(by cases h)⟩ (fun f W W' h hb=>⟨qb h.1 hb,qb h.2.1 hb,fun e=>(h.2.2.1 e).trans (hb.mono (h.2.2.1 e).size),fun e=>by obtain⟨h1,hv',h2⟩:=h.2.2.2 e;exact⟨h1.trans (Spare.of_below _ hb) (fun _ _ h=>h),hv',QE h2 hb⟩⟩) ?_ ?_ ?_
  ·repeat' (with_reducible first|exact qt|refine qn ?_ ?_)
   all_goals try
    refine .inr ?_;intro A x W f hA hR hf hdep D K hK;have a6:=hA.2 6 (by decide);conv at a6=>rhs;whnf
    have a1:=hA.2 1 (by decide);conv at a1=>rhs;whnf
    simp only[QI,QU]at D;clear hdep hA;first
    | go_simp
      exact hK _ _ BR rfl
    | have y0:W.cell? ⟨np,6,none⟩=some (.iface 153 (.pointer (some ⟨p,0,none⟩))):=qa hR.1 6
      have y1:W.cell? ⟨b0,5,none⟩=some dv:=qa hR.2.1 5;go_simp
      exact hK _ _ BR rfl
   any_goals exact .inl rfl
  ·intro A x W hA hR hdep K hK;have g64:=gw hA hdep 3 64;have g66:=gw hA hdep 5 66;clear hdep hA;have hB:=hR.2.2.1 rfl;go_simp
   refine Q5 (f:=200) (by kernel_rfl) ?_;go_simp
   have hDW:Hold W dv ds:=HD.out.below (hb0▸HB4.out.trans (hB.mono (by omega)));refine(jU (h0Z true bs) (yn 128 kz) ds (Q7 true bs) (Yj HK.out.1) p hv dv W (QE HE4.out hB) hDW (fun hne b hb=>⟨fun e=>by have:=YB HD.out hne hb;omega,fun e=>by have:=YB HD.out hne hb;have:=HM5.out b e;omega⟩) (by have:=Yi (n:=128) (key:=kz) (by omega);have:=HDL.out;omega)).mono ?_;rintro e w' ⟨rfl,⟨hv',hE', -⟩,hS'⟩
   refine hK _ _ (fun h=>by cases h) ⟨(hS'.block np (Ai hR.1).1 ⟨fun e=>hpnp e.symm,jx (QE HE4.out hB) hR.1 (by decide)⟩).trans hR.1,(hS'.block b0 (Ai hR.2.1).1 ⟨by omega,fun e=>by have:=HM5.out b0 e;omega⟩).trans hR.2.1,fun h=>(by cases h),fun _=>⟨(Spare.of_below _ hB).trans hS' (fun _ _ h=>h),hv',hE'⟩⟩ ⟨.inr (fun _ h=>h),.inr (fun _ h=>h),.inr (fun _ h=>h),.inr (fun _ h=>h),.inr (fun _ h=>h),.inr (fun _ h=>h),.inl rfl,trivial⟩ trivial
  intro x W hR hall;obtain⟨e67, -⟩:=hall;change ((fun _ _=>True)) (x 67) W at e67
  simp only[Qi,Act.put,Ls];obtain⟨hn9,hc9, -,h9⟩:=hR;obtain⟨hs9,hv9,hE9⟩:=h9 rfl;have hb9:Below b0 w W:=HB4.out.trans (hs9.below (by omega) (fun k hk=>⟨by omega,fun e=>by have:=HM5.out k e;omega⟩));have c94:W.cell? ⟨b0,4,none⟩=some (.int .i64 o):=qa hc9 4;have hb09:b0<W.heap.size:=(Ai hc9).1;have HN9:=hid hn9;have HE9:=hid hE9;have HB9:=hid hb9;clear hn9 hc9 h9 hs9 hE9 hb9 e67 HN4 HE4 HC4 HB4;go_wp2_with fail
  have ho:=HO.out;obtain⟨m,hm⟩: ∃m:Nat,o=(m:Int):=⟨o.toNat,by omega⟩;have hm1:1≤m∧m≤64:=by omega
  clear ho HO;subst hm;have hlen:(((yn 128 kz)++ds).length:Int)≤281474976710656:=by
   have:=Yi (n:=128) (key:=kz) (by omega)
   have:=HDL.out
   rw[List.length_append];omega
  have hmz: ∀z∈yn 128 kz++ds,0≤z∧z≤255:=fun z hz=>by
   rcases List.mem_append.1 hz with hz|hz
   ·exact Yj HK.out.1 z hz
   ·exact HD.out.1 z hz
  refine(qaG (h0Z true bs) (yn 128 kz++ds) (Q7 true bs) hmz np p m dg 0 la bv' kv' hv9 _ HN9.out HE9.out hlen hm1.1 hm1.2).mono ?_;rintro e w5 ⟨⟨v5,rfl,hf5⟩,hb5⟩;have HF5:=hid (show Fresh w.heap.size w5 v5 (zw true bs kz la (m:Nat) ds) from by have h:=hf5.le (b':=w.heap.size) (by omega);unfold zw;exact h);have HB6:=hid (show Below b0 w w5 from HB9.out.trans (hb5.mono (by omega)));clear hf5 hb5 hlen hmz hm1;go_wp2
  go_ret2
  exact⟨⟨_,rfl,HF5.out⟩,by rw[hb0];exact HB6.out⟩
theorem qct (bs kz ds:List Int)(la:Bool)(o:Int)(bv kv dv:Value)(w:World)(hB:Hold w bv bs)(hK:Hold w kv kz)(hD:Hold w dv ds)(hdl:(ds.length:Int)≤140737488355200)(hok:okD false false bs)(hkb0:Yu bs kz=false)(ho:1≤o∧o≤32):
  Calls Tryz.prog 16 #[.agg (qx 2 bv kv la o dv)] w fun e w'=>qcC false bs kz la o ds w e w':=by
 obtain⟨b0,hb0⟩:=Ex w.heap.size;obtain⟨ka,kc,rfl,hkc1,hkc2⟩:=hK.slice;have hbA:Below b0 w (w.alloc (.cells #[.int .i64 2,bv,.slice ka kz.length kc,.bool la,.int .i64 o,dv] 40)):=by rw[←hb0];exact Br.alloc Nl _
 have hrA:=Wn w (.cells #[.int .i64 2,bv,.slice ka kz.length kc,.bool la,.int .i64 o,dv] 40);rw[hb0]at hrA;have hBA:=hB.below (hb0▸hbA);have HB:=hid hB;have HK:=hid hK;have HD:=hid hD;have HDL:=hid hdl;have HOK:=hid hok;have HKB:=hid hkb0;have HO:=hid ho;clear hB hK hD hdl hkc1 hkc2 hok hkb0 ho;show Calls _ _ #[.agg #[.int .i64 2,bv,.slice ka kz.length kc,.bool la,.int .i64 o,dv]] _ _
 go_enter Tryz.func16,Tryz.ntmps16
 go_wp2_with fail
 generalize w.alloc (.cells #[.int .i64 2,bv,.slice ka kz.length kc,.bool la,.int .i64 o,dv] 40)=wA at*;refine(qak false bs bv wA hBA.holds8 hBA.1 (fun a n c e=>by obtain⟨a',c',e',h1,h2⟩:=hBA.slice;rw[e']at e;simp only[Value.slice.injEq]at e;obtain⟨-,rfl,rfl⟩:=e;exact⟨h1,h2⟩) HOK.out).mono ?_;rintro e w1 ⟨⟨fo,dp,lf,ofs,nd,inr,sa,pe,rfl,hsa,hpe⟩,hb1⟩;obtain⟨ky,hky⟩:=Ex (qp bs 1);obtain⟨dg,hdg⟩:=Ex (qp bs 0);rw[hky,hdg];unfold Zo;have hr1:=qb hrA hb1;have hs1:=hb1.size;have hb01:b0<wA.heap.size:=(Ai hrA).1;have hbB:Below b0 w w1:=hbA.trans (hb1.mono (by omega));have HR1:=hid hr1;have HBB:=hid hbB;clear hr1 hbB hb1 hbA hrA hBA;go_upto_if 24 with((with_reducible show wpList _ _ _ (Oper.mk none (Op.store 72 _ _) _ _ _ _::_) _ _);refine wpList_store_row rfl 72 _ _ rfl w1.heap.size #[.int .i64 dg,.int .i64 ky,.int .i64 fo,.int .i64 dp,.int .u32 lf,.int .u64 ofs,.int .u32 0,.int .i64 nd,.int .i64 inr,sa,pe] rfl rfl 72 _ (Wn _ _) (by kernel_rfl) rfl (by simp only[List.all_toArray,List.all_cons,List.all_nil,hsa,hpe];rfl) ?_)
 refine qj ?_;intro W hW;obtain⟨p4,hp4⟩:=Ex w1.heap.size;have hr2:W.heap[p4]? =some (.cells #[.int .i64 dg,.int .i64 ky,.int .i64 fo,.int .i64 dp,.int .u32 lf,.int .u64 ofs,.int .u32 0,.int .i64 nd,.int .i64 inr,sa,pe] 72 (0,0)):=by rw[hW,←hp4];exact setRow_heap _ _ _ _ _ _ (Wn _ _)
 have hr3:W.heap[b0]? =some (.cells #[.int .i64 2,bv,.slice ka kz.length kc,.bool la,.int .i64 o,dv] 40 (0,0)):=by rw[hW];exact(setRow_other (w1.alloc _) _ _ _ (by omega)).trans ((Bh _ _ _ (by omega)).trans HR1.out)
 have hbC:Below b0 w W:=by rw[hW];exact below_setRow (HBB.out.alloc (by omega) _) (by omega) _
 rw[hp4];have hp4b:b0<p4:=by omega
 clear hW hp4 HR1 HBB hs1 hb01;have hWs:p4<W.heap.size:=(Ai hr2).1;have hBW:=HB.out.below (hb0▸hbC);have HR3:=hid hr3;have HBC:=hid hbC;have c40:W.cell? ⟨p4,0,none⟩=some (.int .i64 dg):=qa hr2 0;have c41:W.cell? ⟨p4,1,none⟩=some (.int .i64 ky):=qa hr2 1;have c30:W.cell? ⟨b0,0,none⟩=some (.int .i64 2):=qa hr3 0;have c31:W.cell? ⟨b0,1,none⟩=some bv:=qa hr3 1;have c32:W.cell? ⟨b0,2,none⟩=some (.slice ka kz.length kc):=qa hr3 2;have hb0s:b0<W.heap.size:=(Ai hr3).1;obtain⟨q0,hq0⟩: ∃q,((kz.length:Int) != 0)=q:=⟨_,rfl⟩;obtain⟨q1,hq1⟩: ∃q,((kz.length:Int) != ky)=q:=⟨_,rfl⟩;have hqq:(q0&&q1)=false:=by rw[←hq0,←hq1,←hky];exact(qab bs kz).symm.trans HKB.out
 have hkl:kz.length≤32:=qcN HOK.out HKB.out;clear hr2 hr3 hbC hky hdg hBW;go_upto_region 8 with(fail)
 go_cut [46] from 7 (fun u W'=>u= .bool false∧W=W')
 case first=>
  cases q0<;>cases q1<;>first|(exfalso;cases hqq;done)|skip
  all_goals
   go_wp2
   go_meet
   case rel=>exact⟨rfl,by trivial⟩
 case rest=>
  clear hq0 hq1 c41 hqq;obtain⟨rfl,rfl⟩:=hcut;have hMD:=qcc bs kz dg bv (.slice ka kz.length kc) W (HB.out.below (hb0▸HBC.out)) (HK.out.below (hb0▸HBC.out)) HOK.out.1 hkl;have HMD:=hid hMD;clear hMD;go_wp2_with fail
  refine HMD.out.mono ?_;rintro e w3 ⟨np,p,hv,bv',kv',rfl,m1,m2,m3,m4,m5,m6⟩;have hq3:=qb HR3.out m6;have hb3:Below b0 w w3:=HBC.out.trans (m6.mono (by omega));have hs3:=m6.size;have c43:w3.cell? ⟨b0,3,none⟩=some (.bool la):=qa hq3 3;have c44:w3.cell? ⟨np,4,none⟩=some (.bool false):=qa m3 4;have f44:=frozen_of_row w3 np 4 _ _ m3;have hb0s3:b0<w3.heap.size:=by omega
  have hnps:np<w3.heap.size:=(Ai m3).1;have hpn:b0<np∧b0<p:=by omega
  obtain⟨hpn1,hpn2⟩:=hpn;have hbut:But np w3 (w3.setCell ⟨np,4,none⟩ (.bool la)):=(But.refl np w3).set 4 _;have hn4:=zN (b:=la) m3;have he4:=qcQ m4 hbut m3 (by decide) (by decide) (by decide);have hc4:=(hbut.block b0 hb0s3 (by omega)).trans hq3;have hb4:Below b0 w (w3.setCell ⟨np,4,none⟩ (.bool la)):=hb3.trans (hbut.below (by omega) (by omega));have hpnp:p≠np:=fun e=>by have h1:=m4.1;rw[e,m3]at h1;simp only[cond,Option.some.injEq,Obj.cells.injEq]at h1;exact absurd h1.2.1 (by decide)
  have m5': ∀g,hv.ownBlock=some g→b0<g:=fun g hg=>by have:=m5 g hg;omega
  have HN4:=hid hn4;have HE4:=hid he4;have HC4:=hid hc4;have HB4:=hid hb4;have HM5:=hid m5';have hs4:(w3.setCell ⟨np,4,none⟩ (.bool la)).heap.size=w3.heap.size:=by simp[World.setCell]
  rw[←hs4]at hnps hb0s3;clear hq3 hb3 m1 m2 m3 m4 m5 m5' m6 hbut hn4 he4 hc4 hb4 hs3 hs4 HR3 HBC HMD c30 c31 c32 hb0s c40 hWs;go_upto_region 12 with(fail)
  generalize w3.setCell ⟨np,4,none⟩ (.bool la)=W4 at*;clear c43 c44 f44 w3 W;refine Ql (fun f W=>W.heap[np]? =some (.cells (Qm 2 dg bv' kv' la 0 (.iface 163 (.pointer (some ⟨p,0,none⟩)))) 80 (0,0))∧W.heap[b0]? =some (.cells #[.int .i64 2,bv,.slice ka kz.length kc,.bool la,.int .i64 o,dv] 40 (0,0))∧(f=false→Below W4.heap.size W4 W)∧(f=true→Spare (zE p hv) W4 W∧ ∃hv',qW false W p hv' (h0Z false bs) (yn 64 kz++ds))) 6 [.v 61 (.pointer (some ⟨np,0,none⟩)),.v 62 (.pointer (some ⟨np,0,none⟩)),.v 63 (.pointer (some ⟨np,6,none⟩)),.v 64 (.iface 163 (.pointer (some ⟨p,0,none⟩))),.v 65 (.pointer (some ⟨b0,5,none⟩)),.v 66 dv,.p 67 (fun _ _=>True)] (by exact⟨kW,trivial⟩) ⟨HN4.out,HC4.out,fun _=>Br.drew,fun h=>(by cases h)⟩ (fun f W W' h hb=>⟨qb h.1 hb,qb h.2.1 hb,fun e=>(h.2.2.1 e).trans (hb.mono (h.2.2.1 e).size),fun e=>by obtain⟨h1,hv',h2⟩:=h.2.2.2 e;exact⟨h1.trans (Spare.of_below _ hb) (fun _ _ h=>h),hv',QE h2 hb⟩⟩) ?_ ?_ ?_
  ·repeat' (with_reducible first|exact qt|refine qn ?_ ?_)
   all_goals try
    refine .inr ?_;intro A x W f hA hR hf hdep D K hK;have a6:=hA.2 6 (by decide);conv at a6=>rhs;whnf
    have a1:=hA.2 1 (by decide);conv at a1=>rhs;whnf
    simp only[QI,QU]at D;clear hdep hA;first
    | go_simp
      exact hK _ _ BR rfl
    | have y0:W.cell? ⟨np,6,none⟩=some (.iface 163 (.pointer (some ⟨p,0,none⟩))):=qa hR.1 6
      have y1:W.cell? ⟨b0,5,none⟩=some dv:=qa hR.2.1 5;go_simp
      exact hK _ _ BR rfl
   any_goals exact .inl rfl
  ·intro A x W hA hR hdep K hK;have g64:=gw hA hdep 3 64;have g66:=gw hA hdep 5 66;clear hdep hA;have hB:=hR.2.2.1 rfl;go_simp
   refine Q5 (f:=206) (by kernel_rfl) ?_;go_simp
   have hDW:Hold W dv ds:=HD.out.below (hb0▸HB4.out.trans (hB.mono (by omega)));refine(ji (h0Z false bs) (yn 64 kz) ds (Q7 false bs) (Yj HK.out.1) p hv dv W (QE HE4.out hB) hDW (fun hne b hb=>⟨fun e=>by have:=YB HD.out hne hb;omega,fun e=>by have:=YB HD.out hne hb;have:=HM5.out b e;omega⟩) (by have:=Yi (n:=64) (key:=kz) (by omega);have:=HDL.out;omega)).mono ?_;rintro e w' ⟨rfl,⟨hv',hE', -⟩,hS'⟩
   refine hK _ _ (fun h=>by cases h) ⟨(hS'.block np (Ai hR.1).1 ⟨fun e=>hpnp e.symm,jx (QE HE4.out hB) hR.1 (by decide)⟩).trans hR.1,(hS'.block b0 (Ai hR.2.1).1 ⟨by omega,fun e=>by have:=HM5.out b0 e;omega⟩).trans hR.2.1,fun h=>(by cases h),fun _=>⟨(Spare.of_below _ hB).trans hS' (fun _ _ h=>h),hv',hE'⟩⟩ ⟨.inr (fun _ h=>h),.inr (fun _ h=>h),.inr (fun _ h=>h),.inr (fun _ h=>h),.inr (fun _ h=>h),.inr (fun _ h=>h),.inl rfl,trivial⟩ trivial
  intro x W hR hall;obtain⟨e67, -⟩:=hall;change ((fun _ _=>True)) (x 67) W at e67
  simp only[Qi,Act.put,Ls];obtain⟨hn9,hc9, -,h9⟩:=hR;obtain⟨hs9,hv9,hE9⟩:=h9 rfl;have hb9:Below b0 w W:=HB4.out.trans (hs9.below (by omega) (fun k hk=>⟨by omega,fun e=>by have:=HM5.out k e;omega⟩));have c94:W.cell? ⟨b0,4,none⟩=some (.int .i64 o):=qa hc9 4;have hb09:b0<W.heap.size:=(Ai hc9).1;have HN9:=hid hn9;have HE9:=hid hE9;have HB9:=hid hb9;clear hn9 hc9 h9 hs9 hE9 hb9 e67 HN4 HE4 HC4 HB4;go_wp2_with fail
  have ho:=HO.out;obtain⟨m,hm⟩: ∃m:Nat,o=(m:Int):=⟨o.toNat,by omega⟩;have hm1:1≤m∧m≤32:=by omega
  clear ho HO;subst hm;have hlen:(((yn 64 kz)++ds).length:Int)≤281474976710656:=by
   have:=Yi (n:=64) (key:=kz) (by omega)
   have:=HDL.out
   rw[List.length_append];omega
  have hmz: ∀z∈yn 64 kz++ds,0≤z∧z≤255:=fun z hz=>by
   rcases List.mem_append.1 hz with hz|hz
   ·exact Yj HK.out.1 z hz
   ·exact HD.out.1 z hz
  refine(JR (h0Z false bs) (yn 64 kz++ds) (Q7 false bs) hmz np p m dg 0 la bv' kv' hv9 _ HN9.out HE9.out hlen hm1.1 hm1.2).mono ?_;rintro e w5 ⟨⟨v5,rfl,hf5⟩,hb5⟩;have HF5:=hid (show Fresh w.heap.size w5 v5 (zw false bs kz la (m:Nat) ds) from by have h:=hf5.le (b':=w.heap.size) (by omega);unfold zw;exact h);have HB6:=hid (show Below b0 w w5 from HB9.out.trans (hb5.mono (by omega)));clear hf5 hb5 hlen hmz hm1;go_wp2
  go_ret2
  exact⟨⟨_,rfl,HF5.out⟩,by rw[hb0];exact HB6.out⟩
theorem Qb {W:World}{base n b:Nat}{v:Value}{xs:List Value}{c cs:Array Value}{T:TypeId}(h:W.ownsRow base 5 1 v n xs)(hr:W.heap[b]? =some (.cells c T (0,0)))(hT:T≠5):(W.setRow b cs).ownsRow base 5 1 v n xs:=by
 refine⟨h.1,?_⟩;rcases h.2 with h2|⟨g,cap,cur,e,h1,h2,h3⟩
 ·exact .inl h2
 ·refine .inr ⟨g,cap,cur,e,h1,?_,h3⟩;rw[setRow_other _ _ _ _ ?_];exact h2;rintro rfl
  rw[hr]at h2;simp only[Option.some.injEq,Obj.cells.injEq]at h2;exact hT h2.2.1
def TreeV.vN (t:TreeV)(row at_:Nat)(f:Nat):Nat:=
 if f=1 then t.d.toNat else if f=2 then t.kl else if f=3 then t.f.toNat else if f=4 then t.p.toNat else if f=5 then t.l.toNat else if f=6 then at_ else if f=8 then row else if f=9 then t.i.toNat else 0
def TreeV.big (t:TreeV):Bool:=decide (t.k=1)
theorem YS {t:TreeV}(h:t.validE=0):kB t.big=t.k:=by
 have:=(qd h).1
 unfold TreeV.big kB;rcases this with e|e<;>rw[e]<;>rfl
theorem QT {t:TreeV}(h:t.validE=0):((mB t.big:Nat):Int)=YU t.k∧((sB t.big:Nat):Int)=jp t.k:=by
 have:=(qd h).1
 unfold TreeV.big mB sB YU jp;rcases this with e|e<;>rw[e]<;>exact⟨rfl,rfl⟩
theorem jB {t:TreeV}(h:t.validE=0)(hl:0≤t.l∧t.l≤4294967295){row at_:Nat}(hr:row≤255)(ha:at_<281474976710656):ParOk t.big (t.vN row at_):=by
 obtain⟨h1,h2,h3,h4,h5,h6,h7,h8,h9,h10, -, -⟩:=qd h;obtain⟨hm, -⟩:=QT h;refine⟨⟨?_,?_,?_,?_,⟨?_,fun _=>?_⟩,?_,?_⟩,?_,?_,rfl⟩;all_goals simp only[TreeV.vN,if_true,if_false,Nat.reduceEqDiff]
 all_goals omega
def TreeV.blk (t:TreeV)(z1 z2:List Int)(row at_:Nat):List Int:=Zv t.big (t.vN row at_) z1 z2
theorem TreeV.parN {t:TreeV}(h:t.validE=0)(hl:0≤t.l∧t.l≤4294967295)(row at_:Nat)(sa pe:Value):
  parN (t.vN row at_) sa pe= .agg #[.int .i64 t.d,.int .i64 (t.kl:Nat),.int .i64 t.f,.int .i64 t.p,.int .u32 t.l,.int .u64 (at_:Nat),.int .u32 0,.int .i64 (row:Nat),.int .i64 t.i,sa,pe]:=by
 obtain⟨h1,h2,h3,h4,h5,h6,h7,h8,h9,h10, -, -⟩:=qd h;have e: ∀z:Int,0≤z→((z.toNat:Nat):Int)=z:=fun z hz=>Int.toNat_of_nonneg hz
 unfold Go.Proofs.YtdndeffmlhaipaaGreatDoor.parN Zo;simp only[TreeV.vN,if_true,if_false,Nat.reduceEqDiff];rw[e t.d (by omega),e t.f (by omega),e t.p (by omega),e t.l (by omega),e t.i (by omega)];rfl
theorem Qe {W:World}{B n g:Nat}{v:Value}{xs:List Value}{c:Array Value}{T:TypeId}{fr:Nat×Nat}(h:W.ownsRow B 5 1 v n xs)(hr:W.heap[g]? =some (.cells c T fr))(o:Nat)(u:Value)(hT:T≠5):(W.setCell ⟨g,o,none⟩ u).ownsRow B 5 1 v n xs:=by
 refine⟨h.1,?_⟩;rcases h.2 with h2|⟨g',cap,cur,e,h1,h2,h3⟩
 ·exact .inl h2
 ·refine .inr ⟨g',cap,cur,e,h1,?_,h3⟩;rw[heap_setCell_other W _ _ _ ?_];exact h2;rintro rfl
  rw[hr]at h2;simp only[Option.some.injEq,Obj.cells.injEq]at h2;exact hT h2.2.1
def TreeV.outN (t:TreeV)(rt:Bool):Int:=if rt then t.d else t.i
def zm (row:Nat)(kz:List Int):List Int:=if row=0 then kz else []
theorem Y7 (t:TreeV)(h:t.validE=0)(hl:0≤t.l∧t.l≤4294967295)(z1 z2 kz:List Int)(row at_:Nat)(hr:row≤255)(ha:at_<281474976710656)(la rt:Bool)(da:Option Addr)(dn dc:Nat)(w:World)
  (h1:Hold w (.slice t.sa t.sl t.sc) z1) (h2:Hold w (.slice t.pa t.pl t.pc) z2) (hk:Hold w (.slice t.ka t.kl t.kc) kz):
  Calls Tryz.prog 45 #[t.val,.int .i64 (row:Nat),.int .u64 (at_:Nat),.bool la,.bool rt,.slice da dn dc] w fun e w'=> ∃bv kv,e= .returned (.agg (qx t.k bv kv la (t.outN rt) (.slice da dn dc)))∧
   w'.ownsRow w.heap.size 5 1 bv (mB t.big) ((t.blk z1 z2 row at_).map qv)∧w'.ownsRow w.heap.size 5 1 kv (zm row kz).length ((zm row kz).map qv)∧Below w.heap.size w w':=by
 obtain⟨b0,hb0⟩:=Ex w.heap.size;have hz1:z1.length=t.sl:=by obtain⟨a,c,e, -, -⟩:=h1.slice;simp only[Value.slice.injEq]at e;exact e.2.1.symm
 have hz2:z2.length=t.pl:=by obtain⟨a,c,e, -, -⟩:=h2.slice;simp only[Value.slice.injEq]at e;exact e.2.1.symm
 have hzk:kz.length=t.kl:=by obtain⟨a,c,e, -, -⟩:=hk.slice;simp only[Value.slice.injEq]at e;exact e.2.1.symm
 have hvf:=qd h;have hmb:=QT h;have hk64:kz.length≤64:=by
  have h1:=hvf.2.2.2.2.2.2.2.2.2.1;have h2:mB t.big≤64:=by cases t.big<;>decide
  omega
 have HEN:=hid (fun(W:World) (hb:Below b0 w W)=>qdt t.big (t.vN row at_) z1 z2 (.slice t.sa t.sl t.sc) (.slice t.pa t.pl t.pc) W (jB h hl hr ha) (h1.below (hb0▸hb)) (h2.below (hb0▸hb)) (by omega) (by omega));rw[TreeV.parN h hl,YS h]at HEN;have HK:=hid hk;have HZK:=hid hzk;have HB:=hid (show t.blk z1 z2 row at_=Zv t.big (t.vN row at_) z1 z2 from rfl);generalize t.blk z1 z2 row at_=BL at*;obtain⟨k,d,f,p,l,i,ka,kl,kc,sa,sl,sc,pa,pl,pc⟩:=t;unfold TreeV.val;simp only at*
 clear hvf hmb h hl h1 h2 hk hz1 hz2 hzk;go_enter Tryz.func45,Tryz.ntmps45
 go_upto_region 1 with(fail)
 have hrT:((w.alloc (.cells #[.int .i64 k,.int .i64 d,.int .i64 f,.int .i64 p,.int .u32 l,.int .i64 i,.slice ka kl kc,.slice sa sl sc,.slice pa pl pc] 26)).alloc (.cells #[.int .i64 0,.slice none 0 0,.slice none 0 0,.bool false,.int .i64 0,.slice none 0 0] 40)).heap[b0]? =some (.cells #[.int .i64 k,.int .i64 d,.int .i64 f,.int .i64 p,.int .u32 l,.int .i64 i,.slice ka kl kc,.slice sa sl sc,.slice pa pl pc] 26 (0,0)):=(Bh _ _ _ (by simp;omega)).trans (qc _ _ hb0.symm);have hrC:((w.alloc (.cells #[.int .i64 k,.int .i64 d,.int .i64 f,.int .i64 p,.int .u32 l,.int .i64 i,.slice ka kl kc,.slice sa sl sc,.slice pa pl pc] 26)).alloc (.cells #[.int .i64 0,.slice none 0 0,.slice none 0 0,.bool false,.int .i64 0,.slice none 0 0] 40)).heap[b0+1]? =some (.cells #[.int .i64 0,.slice none 0 0,.slice none 0 0,.bool false,.int .i64 0,.slice none 0 0] 40 (0,0)):=qc _ _ (by simp;omega);have hbA:Below b0 w ((w.alloc (.cells #[.int .i64 k,.int .i64 d,.int .i64 f,.int .i64 p,.int .u32 l,.int .i64 i,.slice ka kl kc,.slice sa sl sc,.slice pa pl pc] 26)).alloc (.cells #[.int .i64 0,.slice none 0 0,.slice none 0 0,.bool false,.int .i64 0,.slice none 0 0] 40)):=by rw[←hb0];exact(Br.alloc Nl _).alloc (by simp) _
 have hsA:((w.alloc (.cells #[.int .i64 k,.int .i64 d,.int .i64 f,.int .i64 p,.int .u32 l,.int .i64 i,.slice ka kl kc,.slice sa sl sc,.slice pa pl pc] 26)).alloc (.cells #[.int .i64 0,.slice none 0 0,.slice none 0 0,.bool false,.int .i64 0,.slice none 0 0] 40)).heap.size=b0+2:=by simp;omega
 generalize ((w.alloc (.cells #[.int .i64 k,.int .i64 d,.int .i64 f,.int .i64 p,.int .u32 l,.int .i64 i,.slice ka kl kc,.slice sa sl sc,.slice pa pl pc] 26)).alloc (.cells #[.int .i64 0,.slice none 0 0,.slice none 0 0,.bool false,.int .i64 0,.slice none 0 0] 40))=wA at*;have c0:wA.cell? ⟨b0,0,none⟩=some (.int .i64 k):=qa hrT 0;have c1:wA.cell? ⟨b0,1,none⟩=some (.int .i64 d):=qa hrT 1;have c2:wA.cell? ⟨b0,2,none⟩=some (.int .i64 f):=qa hrT 2;have c3:wA.cell? ⟨b0,3,none⟩=some (.int .i64 p):=qa hrT 3;have c4:wA.cell? ⟨b0,4,none⟩=some (.int .u32 l):=qa hrT 4;have c5:wA.cell? ⟨b0,5,none⟩=some (.int .i64 i):=qa hrT 5;have c6:wA.cell? ⟨b0,6,none⟩=some (.slice ka kl kc):=qa hrT 6;have c7:wA.cell? ⟨b0,7,none⟩=some (.slice sa sl sc):=qa hrT 7;have c8:wA.cell? ⟨b0,8,none⟩=some (.slice pa pl pc):=qa hrT 8;have hb0A:b0<wA.heap.size:=by omega
 have HRT:=hid hrT;have HRC:=hid hrC;have HBA:=hid hbA;clear hrT hrC hbA;go_upto_region 2 with(first|((with_reducible show wpList _ _ _ (Oper.mk none (Op.store 72 _ _) _ _ _ _::_) _ _);refine wpList_store_row rfl 72 _ _ rfl wA.heap.size #[.int .i64 d,.int .i64 (kl:Nat),.int .i64 f,.int .i64 p,.int .u32 l,.int .u64 (at_:Nat),.int .u32 0,.int .i64 (row:Nat),.int .i64 i,.slice sa sl sc,.slice pa pl pc] rfl rfl 72 _ (Wn _ _) (by kernel_rfl) rfl (by simp[Value.oneCell']) ?_))
 refine qj ?_;intro W hW;obtain⟨b2,hb2⟩:=Ex (b0+2);have hrP:W.heap[b2]? =some (.cells #[.int .i64 d,.int .i64 (kl:Nat),.int .i64 f,.int .i64 p,.int .u32 l,.int .u64 (at_:Nat),.int .u32 0,.int .i64 (row:Nat),.int .i64 i,.slice sa sl sc,.slice pa pl pc] 72 (0,0)):=by rw[hW,←hb2,←hsA];exact Wn _ _
 have hbW:Below b2 wA W:=by rw[hW,←hb2,←hsA];exact Br.alloc Nl _
 rw[hb2];have hbw:Below b0 w W:=HBA.out.trans (hbW.mono (by omega));have hrT:W.heap[b0]? =some (.cells #[.int .i64 k,.int .i64 d,.int .i64 f,.int .i64 p,.int .u32 l,.int .i64 i,.slice ka kl kc,.slice sa sl sc,.slice pa pl pc] 26 (0,0)):=(hbW.block b0 (by omega)).trans HRT.out;have hrC:W.heap[b0+1]? =some (.cells #[.int .i64 0,.slice none 0 0,.slice none 0 0,.bool false,.int .i64 0,.slice none 0 0] 40 (0,0)):=(hbW.block (b0+1) (by omega)).trans HRC.out;have c0:W.cell? ⟨b0,0,none⟩=some (.int .i64 k):=qa hrT 0;have hb2W:b2<W.heap.size:=(Ai hrP).1;have hb0W:b0<W.heap.size:=by omega
 clear hW hbW HBA HRT HRC hsA hb0A;go_wp2_with ((with_reducible show wpList _ _ _ (Oper.mk _ (Op.load 72 _) _ _ _ _::_) _ _);refine wpList_load_row rfl 72 _ rfl b2 rfl _ _ _ _ hrP Tryz.underlying72 rfl (by kernel_rfl) ?_)
 refine(HEN.out W hbw).mono ?_;rintro e w2 ⟨⟨bv,rfl,hbo⟩,hbe⟩;obtain⟨a5,n5,k5,rfl⟩:=qs hbo;have HRT:=hid (qb hrT hbe);have HRC:=hid (qb hrC hbe);have hs2:=hbe.size;have hbo2:=ownsRow_le hbo (show b0≤W.heap.size by omega);rw[←HB.out]at hbo2;have HBO:=hid hbo2;have HB2:=hid (show Below b0 w w2 from hbw.trans (hbe.mono (by omega)));have c0:w2.cell? ⟨b0,0,none⟩=some (.int .i64 k):=qa HRT.out 0;have c5:w2.cell? ⟨b0,5,none⟩=some (.int .i64 i):=qa HRT.out 5;have hb0w:b0+1<w2.heap.size∧b0<w2.heap.size:=by omega
 clear hrT hrC hbw hbe hbo hbo2 hrP HEN hb2 hb2W hb0W hs2;go_upto_region 4 with(fail)
 refine qj ?_;intro V hV;obtain⟨b3,hb3⟩:=Ex w2.heap.size;have hrV:V.heap[b3]? =some (.cells #[.int .i64 k,.slice a5 n5 k5,.slice none 0 0,.bool la,.int .i64 i,.slice da dn dc] 40 (0,0)):=by rw[hV,←hb3];exact Wn _ _
 have hbV:Below b3 w2 V:=by rw[hV,←hb3];exact Br.alloc Nl _
 rw[hb3];have hrT3:V.heap[b0]? =_:=(hbV.block b0 (by omega)).trans HRT.out;have hrC3:V.heap[b0+1]? =_:=(hbV.block (b0+1) (by omega)).trans HRC.out;have HRV:=hid hrV;have HRT3:=hid hrT3;have HRC3:=hid hrC3;have hsV:=(Ai hrV).1;have HBV:=hid (show Below b0 w V from HB2.out.trans (hbV.mono (by omega)));have HBO3:=hid (qf HBO.out (fun g _ g2=>hbV.block g (by omega)));have hb03:b0+1<b3∧b0<V.heap.size∧b0+1<V.heap.size:=by omega
 clear hV hb3 hbV HRT HRC HB2 HBO c0 c5 hb0w hrT3 hrC3 hrV;by_cases hrow:row=0
 case neg=>
  have hq: ¬((row:Int)=0):=by omega
  have hkl:zm row kz=[]:=if_neg hrow
  cases rt
  case false=>
   go_wp2_with (first|((with_reducible show wpList _ _ _ (Oper.mk _ (Op.load 40 _) _ _ _ _::_) _ _);refine wpList_load_row rfl 40 _ rfl b3 rfl _ _ _ _ HRV.out Tryz.underlying40 rfl (by kernel_rfl) ?_)|((with_reducible show wpList _ _ _ (Oper.mk none (Op.store 40 _ _) _ _ _ _::_) _ _);refine wpList_store_row rfl 40 _ _ rfl (b0+1) #[.int .i64 k,.slice a5 n5 k5,.slice none 0 0,.bool la,.int .i64 i,.slice da dn dc] rfl rfl 40 _ HRC3.out (by kernel_rfl) rfl (by simp[Value.oneCell']) ?_))
   exact Bp (results_cell_row rfl _ _ _ _ _ _ _ rfl (setRow_heap _ _ _ _ _ _ HRC3.out) Tryz.underlying40 rfl (by kernel_rfl)) rfl (by rw[hb0];exact⟨_,_,rfl,Qb HBO3.out HRC3.out (by decide),(by first|exact Wo _ _ _ _|(rw[hkl];exact Wo _ _ _ _)),below_setRow HBV.out (by omega) _⟩)
  case true=>
   have c1:V.cell? ⟨b0,1,none⟩=some (.int .i64 d):=qa HRT3.out 1;have c4:V.cell? ⟨b3,4,none⟩=some (.int .i64 i):=qa HRV.out 4;have f4:=frozen_of_row V b3 4 _ _ HRV.out;go_upto_region 8 with(fail)
   have hr6:=hid (heap_setCell_same V b3 4 _ _ (.int .i64 d) HRV.out);have hc6:=hid ((heap_setCell_other V ⟨b3,4,none⟩ (b0+1) (.int .i64 d) (show b0+1≠b3 by omega)).trans HRC3.out);have ho6:=hid (Qe HBO3.out HRV.out 4 (.int .i64 d) (by decide));have hb6:=hid (show Below b0 w (V.setCell ⟨b3,4,none⟩ (.int .i64 d)) from HBV.out.setCell (show b0≤b3 by omega) _);clear c1 c4 f4;generalize V.setCell ⟨b3,4,none⟩ (.int .i64 d)=V6 at*;go_wp2_with (first|((with_reducible show wpList _ _ _ (Oper.mk _ (Op.load 40 _) _ _ _ _::_) _ _);refine wpList_load_row rfl 40 _ rfl b3 rfl _ _ _ _ hr6.out Tryz.underlying40 rfl (by kernel_rfl) ?_)|((with_reducible show wpList _ _ _ (Oper.mk none (Op.store 40 _ _) _ _ _ _::_) _ _);refine wpList_store_row rfl 40 _ _ rfl (b0+1) #[.int .i64 k,.slice a5 n5 k5,.slice none 0 0,.bool la,.int .i64 d,.slice da dn dc] rfl rfl 40 _ hc6.out (by kernel_rfl) rfl (by simp[Value.oneCell']) ?_))
   exact Bp (results_cell_row rfl _ _ _ _ _ _ _ rfl (setRow_heap _ _ _ _ _ _ hc6.out) Tryz.underlying40 rfl (by kernel_rfl)) rfl (by rw[hb0];exact⟨_,_,rfl,Qb ho6.out hc6.out (by decide),(by first|exact Wo _ _ _ _|(rw[hkl];exact Wo _ _ _ _)),below_setRow hb6.out (by omega) _⟩)
 subst hrow;have hkl:zm 0 kz=kz:=rfl;obtain⟨i0,hi,hz0,hz1,hz2⟩:=info_parts QH;have c6:V.cell? ⟨b0,6,none⟩=some (.slice ka kl kc):=qa HRT3.out 6;have HKS:=hid (HK.out.below (hb0▸HBV.out)).src;have c2:V.cell? ⟨b3,2,none⟩=some (.slice none 0 0):=qa HRV.out 2;have f2:=frozen_of_row V b3 2 _ _ HRV.out;go_upto_region 6 with(first|(at_builtin;refine qG rfl _ _ _ rfl V V.heap.size rfl (by repeat(first|exact Below.refl _ _|refine Below.drew ?_)) 5 i0 (.int .u8 0) 1 Tryz.underlying24 hi hz0 hz1 hz2 rfl _ 0 [] rfl (Wo _ _ _ _) _ _ _ rfl (HKS.out) (by unfold maxLen;omega) (by omega) ?_;intro v' w' hown' hb';obtain⟨a6,n6,k6,rfl⟩:=qs hown';have hrv':=qb HRV.out hb';have c2':w'.cell? ⟨b3,2,none⟩=some (.slice none 0 0):=qa hrv' 2;have f2':=frozen_of_row w' b3 2 _ _ hrv';have s2':b3<w'.heap.size:=(Ai hrv').1;have HOWN:=hid hown';have HBB:=hid hb';clear hrv' hown' hb'))
 have hs5:=(show Below b0 w w' from HBV.out.trans (HBB.out.mono (by omega)));have hV5:Below b0 w (w'.setCell ⟨b3,2,none⟩ (.slice a6 n6 k6)):=hs5.setCell (show b0≤b3 by omega) _;have HRV5:=hid (heap_setCell_same w' b3 2 _ _ (.slice a6 n6 k6) (qb HRV.out HBB.out));have HRC5:=hid ((heap_setCell_other w' ⟨b3,2,none⟩ (b0+1) (.slice a6 n6 k6) (show b0+1≠b3 by omega)).trans (qb HRC3.out HBB.out));have HRT5:=hid ((heap_setCell_other w' ⟨b3,2,none⟩ b0 (.slice a6 n6 k6) (show b0≠b3 by omega)).trans (qb HRT3.out HBB.out));have HBO5:=hid (Qe (qf HBO3.out (fun g _ g2=>HBB.out.block g g2)) (qb HRV.out HBB.out) 2 (.slice a6 n6 k6) (by decide));have KO5:=hid (Qe (ownsRow_le HOWN.out (show b0≤V.heap.size by omega)) (qb HRV.out HBB.out) 2 (.slice a6 n6 k6) (by decide));have HBV5:=hid hV5;have hs6:(w'.setCell ⟨b3,2,none⟩ (.slice a6 n6 k6)).heap.size=w'.heap.size:=by simp[World.setCell]
 have hs7:=HBB.out.size;rw[Nat.zero_add,List.nil_append]at KO5;have h56:b3<(w'.setCell ⟨b3,2,none⟩ (.slice a6 n6 k6)).heap.size∧b0<(w'.setCell ⟨b3,2,none⟩ (.slice a6 n6 k6)).heap.size∧b0+1<(w'.setCell ⟨b3,2,none⟩ (.slice a6 n6 k6)).heap.size:=by omega
 clear hs5 hV5 hs6 hs7 HRV HRC3 HRT3 HBO3 HBV HOWN HBB c2' f2' s2' c2 f2 c6;generalize w'.setCell ⟨b3,2,none⟩ (.slice a6 n6 k6)=V5 at*
 cases rt
 case false=>
  go_wp2_with (first|((with_reducible show wpList _ _ _ (Oper.mk _ (Op.load 40 _) _ _ _ _::_) _ _);refine wpList_load_row rfl 40 _ rfl b3 rfl _ _ _ _ HRV5.out Tryz.underlying40 rfl (by kernel_rfl) ?_)|((with_reducible show wpList _ _ _ (Oper.mk none (Op.store 40 _ _) _ _ _ _::_) _ _);refine wpList_store_row rfl 40 _ _ rfl (b0+1) #[.int .i64 k,.slice a5 n5 k5,.slice a6 n6 k6,.bool la,.int .i64 i,.slice da dn dc] rfl rfl 40 _ HRC5.out (by kernel_rfl) rfl (by simp[Value.oneCell']) ?_))
  exact Bp (results_cell_row rfl _ _ _ _ _ _ _ rfl (setRow_heap _ _ _ _ _ _ HRC5.out) Tryz.underlying40 rfl (by kernel_rfl)) rfl (by rw[hb0];exact⟨_,_,rfl,Qb HBO5.out HRC5.out (by decide),(Qb KO5.out HRC5.out (by decide)),below_setRow HBV5.out (by omega) _⟩)
 case true=>
  have c1:V5.cell? ⟨b0,1,none⟩=some (.int .i64 d):=qa HRT5.out 1;have c4:V5.cell? ⟨b3,4,none⟩=some (.int .i64 i):=qa HRV5.out 4;have f4:=frozen_of_row V5 b3 4 _ _ HRV5.out;go_upto_region 8 with(fail)
  have hr6:=hid (heap_setCell_same V5 b3 4 _ _ (.int .i64 d) HRV5.out);have hc6:=hid ((heap_setCell_other V5 ⟨b3,4,none⟩ (b0+1) (.int .i64 d) (show b0+1≠b3 by omega)).trans HRC5.out);have ho6:=hid (Qe HBO5.out HRV5.out 4 (.int .i64 d) (by decide));have hk6:=hid (Qe KO5.out HRV5.out 4 (.int .i64 d) (by decide));have hb6:=hid (show Below b0 w (V5.setCell ⟨b3,4,none⟩ (.int .i64 d)) from HBV5.out.setCell (show b0≤b3 by omega) _);clear c1 c4 f4;generalize V5.setCell ⟨b3,4,none⟩ (.int .i64 d)=V6 at*;go_wp2_with (first|((with_reducible show wpList _ _ _ (Oper.mk _ (Op.load 40 _) _ _ _ _::_) _ _);refine wpList_load_row rfl 40 _ rfl b3 rfl _ _ _ _ hr6.out Tryz.underlying40 rfl (by kernel_rfl) ?_)|((with_reducible show wpList _ _ _ (Oper.mk none (Op.store 40 _ _) _ _ _ _::_) _ _);refine wpList_store_row rfl 40 _ _ rfl (b0+1) #[.int .i64 k,.slice a5 n5 k5,.slice a6 n6 k6,.bool la,.int .i64 d,.slice da dn dc] rfl rfl 40 _ hc6.out (by kernel_rfl) rfl (by simp[Value.oneCell']) ?_))
  exact Bp (results_cell_row rfl _ _ _ _ _ _ _ rfl (setRow_heap _ _ _ _ _ _ hc6.out) Tryz.underlying40 rfl (by kernel_rfl)) rfl (by rw[hb0];exact⟨_,_,rfl,Qb ho6.out hc6.out (by decide),(Qb hk6.out hc6.out (by decide)),below_setRow hb6.out (by omega) _⟩)
structure KB (B:Nat)(w w':World):Prop where
 os:w'.os=w.os
 tape:w'.tape=w.tape
 output:w'.output=w.output
 size:w.heap.size≤w'.heap.size
 block: ∀k:Nat,k<B→w'.heap[k]? =w.heap[k]?
 bytes: ∀(k:Nat) (c:Array Value),w.heap[k]? =some (.cells c 5 (0,0))→w'.heap[k]? =some (.cells c 5 (0,0))
namespace KB
variable {B:Nat} {w w' w'':World}
theorem refl (B:Nat)(w:World):KB B w w:=⟨rfl,rfl,rfl,Nat.le_refl _,fun _ _=>rfl,fun _ _ h=>h⟩
theorem trans (h:KB B w w')(k:KB B w' w''):KB B w w'':=⟨k.os.trans h.os,k.tape.trans h.tape,k.output.trans h.output,Nat.le_trans h.size k.size,fun j hj=>(k.block j hj).trans (h.block j hj),fun j c hc=>k.bytes j c (h.bytes j c hc)⟩
theorem of_below (h:Below w.heap.size w w')(hB:B≤w.heap.size):KB B w w':=⟨h.os,h.tape,h.output,h.size,fun k hk=>h.block k (by omega),fun k c hc=>(h.block k (Ai hc).1).trans hc⟩
theorem of_but {g:Nat}{c:Array Value}{T:TypeId}{fr:Nat×Nat}(h:But g w w')(hB:B≤w.heap.size)(hg:B≤g)(hc:w.heap[g]? =some (.cells c T fr))(hT:T≠5):KB B w w':=
 ⟨h.os,h.tape,h.output,h.size,fun k hk=>h.block k (by omega) (by omega),fun k c' hc'=>by
  rw[h.block k (Ai hc').1 ?_];exact hc';rintro rfl
  rw[hc]at hc';simp only[Option.some.injEq,Obj.cells.injEq]at hc';exact hT hc'.2.1⟩
theorem below (h:KB B w w'):Below B w w':=⟨h.os,h.tape,h.output,h.size,h.block⟩
end KB
theorem Fresh.kb {B b:Nat}{w w':World}{x:Value}{z:List Int}(h:Fresh B w x z)(k:KB b w w'):Fresh B w' x z:=by
 rcases h with h|⟨g,cap,cur,e,h1,h2,h3⟩
 ·exact .inl h
 ·exact .inr ⟨g,cap,cur,e,h1,k.bytes _ _ h2,h3⟩
theorem yW {B n:Nat}{w:World}{x:Value}{z:List Int}(h:w.ownsRow B 5 1 x n (z.map qv)):Fresh B w x z:=by
 have hl:z.length=n:=by have:=h.1;simpa using this
 rcases h.2 with⟨rfl,h0⟩|⟨g,cap,cur,rfl,h1,h2,h3,h4,h5,h6⟩
 ·exact .inl ⟨List.eq_nil_of_length_eq_zero (by omega),rfl⟩
 ·exact .inr ⟨g,cap,cur,by rw[hl],h1,h2,by omega,by omega,h4,by rw[hl];simpa using h6⟩
theorem qd1 {B b n:Nat}{w w':World}{x:Value}{xs:List Value}(h:w.ownsRow B 5 1 x n xs)(k:KB b w w'):w'.ownsRow B 5 1 x n xs:=by
 refine⟨h.1,?_⟩;rcases h.2 with h2|⟨g,cap,cur,e,h1,h2,h3⟩
 ·exact .inl h2
 ·exact .inr ⟨g,cap,cur,e,h1,k.bytes _ _ h2,h3⟩
def OwnB (B:Nat)(w:World)(x:Value)(z:List Int):Prop:=(∀a∈z,0≤a∧a≤255)∧Fresh B w x z
theorem OwnB.kb {B b:Nat}{w w':World}{x:Value}{z:List Int}(h:OwnB B w x z)(k:KB b w w'):OwnB B w' x z:=⟨h.1,h.2.kb k⟩
theorem OwnB.hold {B:Nat}{w:World}{x:Value}{z:List Int}(h:OwnB B w x z):Hold w x z:=h.2.hold h.1
theorem OwnB.le {B b:Nat}{w:World}{x:Value}{z:List Int}(h:OwnB B w x z)(hb:b≤B):OwnB b w x z:=⟨h.1,h.2.le hb⟩
theorem OwnB.one {B:Nat}{w:World}{x:Value}{z:List Int}(h:OwnB B w x z):x.oneCell'=true:=by
 rcases h.2 with⟨-,rfl⟩|⟨g,cap,cur,rfl, -⟩<;>rfl
def qJ (L:List (List Int))(i:Nat):List Int:=L.getD i []
def ListO (B:Nat)(w:World)(v:Value)(L:List (List Int)):Prop:=
 ∃vs,w.ownsRow B 24 1 v L.length vs∧ ∀i,i<L.length→OwnB B w (vs.getD i undef) (qJ L i)
def ListH (w:World)(v:Value)(L:List (List Int)):Prop:=
 ∃a cap,v= .slice a L.length cap∧L.length≤cap∧(cap:Int)≤9223372036854775807∧(L=[]∨ ∃g off,a=some ⟨g,off,none⟩∧g<w.heap.size∧ ∀i,i<L.length→ ∃x,w.cell? ⟨g,off+i,none⟩=some x∧Hold w x (qJ L i))
theorem ListO.hold {B:Nat}{w:World}{v:Value}{L:List (List Int)}(h:ListO B w v L):ListH w v L:=by
 obtain⟨vs,ho,hx⟩:=h;have hl:vs.length=L.length:=by have:=ho.1;simpa using this
 rcases ho.2 with⟨rfl,h0⟩|⟨g,cap,cur,rfl,h1,h2,h3,h4,h5,h6⟩
 ·exact⟨none,0,by rw[h0],by omega,by omega,.inl (List.eq_nil_of_length_eq_zero h0)⟩
 ·refine⟨_,cap,rfl,h3,by unfold maxLen at h4;omega,.inr ⟨g,0,rfl,(Ai h2).1,fun i hi=>⟨vs.getD i undef,?_,(hx i hi).hold⟩⟩⟩;rw[qa h2 (0+i),Nat.zero_add];have e:cur.toList[i]? =vs[i]? :=by rw[←h6,List.getElem?_take,if_pos (by omega)]
  rw[←Array.getElem?_toList,e,Lg,List.getElem?_eq_getElem (by omega)];rfl
theorem ListH.below {w w':World}{v:Value}{L:List (List Int)}(h:ListH w v L)(hb:Below w.heap.size w w'):ListH w' v L:=by
 obtain⟨a,cap,rfl,h1,h2,h3⟩:=h;refine⟨a,cap,rfl,h1,h2,?_⟩;rcases h3 with h3|⟨g,off,rfl,h4,h5⟩
 ·exact .inl h3
 ·refine .inr ⟨g,off,rfl,Nat.lt_of_lt_of_le h4 hb.size,fun i hi=>?_⟩;obtain⟨x,h6,h7⟩:=h5 i hi;exact⟨x,(hb.cell (p:=⟨g,off+i,none⟩) h4).trans h6,h7.below hb⟩
theorem nthL_mem {L:List (List Int)}{i:Nat}(hi:i<L.length):qJ L i∈L:=by
 unfold qJ;rw[Lg,List.getElem?_eq_getElem hi];exact List.getElem_mem hi
theorem JY {L:List (List Int)}{k:Nat}(hk:k<L.length):(L.take (k+1)).flatten=(L.take k).flatten++qJ L k:=by
 have e:L.take (k+1)=L.take k++[qJ L k]:=by
  unfold qJ;rw[List.take_succ,Lg,List.getElem?_eq_getElem hk];rfl
 rw[e,List.flatten_append];simp
theorem qaL (L:List (List Int))(k:Nat):(L.take k).flatten.length≤L.flatten.length:=by
 conv=>rhs;rw[←List.take_append_drop k L,List.flatten_append,List.length_append]
 omega
theorem Z6 (L:List (List Int))(v:Value)(w:World)(h:ListH w v L)(hn:L.flatten.length≤70368744177664):
  Calls Tryz.prog 66 #[v] w fun e w'=> ∃u,e= .returned u∧w'.ownsRow w.heap.size 5 1 u L.flatten.length (L.flatten.map qv)∧Below w.heap.size w w':=by
 obtain⟨i0,hi,hz0,hz1,hz2⟩:=info_parts QH;obtain⟨b0,hb0⟩:=Ex w.heap.size;have HH:=hid h;obtain⟨a,cap,rfl,hc1,hc2, -⟩:=h;have hn2:(L.length:Int)≤9223372036854775807:=by omega
 have HN:=hid hn;clear hn;go_enter Tryz.func66,Tryz.ntmps66
 go_wp2_with fail
 go_loopw [3,8] (fun s i wr=> ∃k:Nat,i= .int .i64 (k:Nat)∧k≤L.length∧wr.ownsRow b0 5 1 s (L.take k).flatten.length ((L.take k).flatten.map qv)∧Below b0 w wr) (fun _ i _=>L.length - (intOf i).toNat)
 case atStart=>exact⟨0,rfl,Nat.zero_le _,Wo _ _ _ _,Below.refl _ _⟩
 case round=>
  obtain⟨k,rfl,hk,ho,hb⟩:=hrel;by_cases hlt:k<L.length
  case pos=>
   obtain⟨a',cap',e, -, -,h3⟩:=HH.out;obtain⟨g,off,rfl,h4,h5⟩:=h3.resolve_left (fun e=>by rw[e]at hlt;simp at hlt);simp only[Value.slice.injEq]at e;obtain⟨rfl, -, -⟩:=e;obtain⟨x,hx,hxh⟩:=h5 k hlt;have c0:wr.cell? ⟨g,off+k,none⟩=some x:=(hb.cell (p:=⟨g,off+k,none⟩) (show g<b0 by omega)).trans hx;have hg0:g<wr.heap.size:=by have:=hb.size;omega
   have HX:=hid (hxh.below (hb0▸hb)).src;have HO:=hid ho;have HB:=hid hb;have hfl:=qaL L (k+1);rw[JY hlt,List.length_append]at hfl;have HF:=hid hfl;have hlt2:(k:Int)<L.length:=by omega
   clear hx hxh h5 h4 h3 ho hb hfl;go_wp2_with (at_builtin;refine qG rfl _ _ _ rfl w b0 hb0.symm HB.out 5 i0 (.int .u8 0) 1 Tryz.underlying24 hi hz0 hz1 hz2 rfl _ _ _ rfl HO.out _ _ _ rfl HX.out (by have:=HF.out;have:=HN.out;unfold maxLen;omega) (by have:=HF.out;have:=HN.out;omega) ?_;intro v' w' hown' hb')
   refine⟨⟨k+1,rfl,by omega,?_,hb'⟩,by simp[intOf];omega⟩;rw[JY hlt,List.length_append,List.map_append];exact hown'
  obtain rfl:k=L.length:=by omega
  rw[List.take_length]at ho;have HO:=hid ho;have HB:=hid hb;clear ho hb;go_wp2
  go_ret
  exact⟨_,rfl,hb0▸HO.out,hb0▸HB.out⟩
theorem Q4 {P:Program}{ops:Array Oper}{rest:List Oper}{o:Oper}{a:Act}{Q:Exit→Act→World→Prop}{W:World}(hgd:o.guard=none)(s x:Operand)(t:TypeId)
  (ho:o.op= .call { callee:= .builtin .append,args:= #[s,x],argTypes:= #[t,t] }) (B:Nat) (e:TypeId) (he:e≠5) (i:TypeInfo) (z:Value) (size bytes:Nat) (ht:P.underlying t=some (.slice e)) (hi:P.info? e=some i) (hz:i.zero=some z)
  (hsize:i.size=size) (hby:i.bytes=bytes) (hzs:z.cells.size=size) (hsz:0<size) (v:Value) (n:Nat) (xs us:List Value) (T:TypeId) (hs:a.eval s=v) (hown:W.ownsRow B e size v n xs)
  (hx:a.eval x= .slice (some ⟨W.heap.size,0,none⟩) 1 1) (hl:us.length=size) (h1: ∀u∈us,u.oneCell'=true) (h63:n+1≤maxLen) (hbytes:(n+1)*bytes≤140737488355328) (hB:B≤W.heap.size)
  (h: ∀v' w',w'.ownsRow B e size v' (n+1) (xs++us)→KB B W w'→Spare (fun k=>v.ownBlock≠some k) W w'→wpList P ops Q rest (a.put o.dst v') w'):wpList P ops Q (o::rest) a (W.alloc (.cells us.toArray T)):=by
 refine wpList_append_own _ hgd s x t ho B e i z size bytes ht hi hz hsize hby hzs hsz v n xs hs (hown.alloc _) ⟨W.heap.size,0,none⟩ 1 1 us hx (by omega) (fun j u hj=>?_) h1 h63 hbytes (by simp;omega) fun v' w' h2 h3 _=>?_
 ·rw[Go.WideShapes.add_plain,qa (Wn W _) (0+j),Nat.zero_add];simpa using hj
 have hsp:Spare (fun k=>v.ownBlock≠some k) W w':=(Spare.of_below _ (Br.alloc Nl _)).trans (Spare.of_grown h3) (fun _ _ h=>h);refine h v' w' h2 ⟨hsp.os,hsp.tape,hsp.output,hsp.size,fun k hk=>hsp.block k (by omega) (fun e2=>?_),fun k c hc=>?_⟩ hsp
 ·rcases hown.2 with⟨rfl, -⟩|⟨g,cap,cur,rfl,h4, -⟩
  ·cases e2
  ·simp only[Value.ownBlock,Option.some.injEq]at e2;omega
 ·rw[hsp.block k (Ai hc).1 (fun e2=>?_)]
  ·exact hc
  ·rcases hown.2 with⟨rfl, -⟩|⟨g,cap,cur,rfl, -,h5, -⟩
   ·cases e2
   ·simp only[Value.ownBlock,Option.some.injEq]at e2;subst e2;rw[h5]at hc;simp only[Option.some.injEq,Obj.cells.injEq]at hc;exact he hc.2.1
theorem ListO.nil (B:Nat)(w:World):ListO B w (.slice none 0 0) []:=⟨[],Wo _ _ _ _,fun i hi=>by simp at hi⟩
theorem ListO.kb {B b:Nat}{w w':World}{v:Value}{L:List (List Int)}(h:ListO B w v L)(k:KB b w w')(hs: ∀g,v.ownBlock=some g→w'.heap[g]? =w.heap[g]?):ListO B w' v L:=by
 obtain⟨vs,ho,hx⟩:=h;refine⟨vs,⟨ho.1,?_⟩,fun i hi=>(hx i hi).kb k⟩;rcases ho.2 with h2|⟨g,cap,cur,rfl,h1,h2,h3⟩
 ·exact .inl h2
 ·exact .inr ⟨g,cap,cur,rfl,h1,(hs g rfl).trans h2,h3⟩
theorem ListO.below {B:Nat}{w w':World}{v:Value}{L:List (List Int)}(h:ListO B w v L)(k:Below w.heap.size w w'):ListO B w' v L:=by
 refine h.kb (KB.of_below k (Nat.zero_le _)) fun g hg=>?_
 obtain⟨vs,ho, -⟩:=h;rcases ho.2 with⟨rfl, -⟩|⟨g',cap,cur,rfl, -,h2, -⟩
 ·cases hg
 ·simp only[Value.ownBlock,Option.some.injEq]at hg;subst hg;exact k.block _ (Ai h2).1
theorem ListO.le {B b:Nat}{w:World}{v:Value}{L:List (List Int)}(h:ListO B w v L)(hb:b≤B):ListO b w v L:=by
 obtain⟨vs,ho,hx⟩:=h;exact⟨vs,ownsRow_le ho hb,fun i hi=>(hx i hi).le hb⟩
theorem ListO.snoc {B:Nat}{w w':World}{v' x:Value}{L:List (List Int)}{z:List Int}{vs:List Value}(hx: ∀i,i<L.length→OwnB B w (vs.getD i undef) (qJ L i))(hl:vs.length=L.length)(hz:OwnB B w x z)
  (ho:w'.ownsRow B 24 1 v' (L.length+1) (vs++[x])) (hk:KB B w w'):ListO B w' v' (L++[z]):=by
 refine⟨vs++[x],by simpa using ho,fun i hi=>?_⟩;simp only[List.length_append,List.length_singleton]at hi;by_cases h:i<L.length
 ·have e1:(vs++[x]).getD i undef=vs.getD i undef:=by simp[Lg,List.getElem?_append_left (show i<vs.length by omega)]
  have e2:qJ (L++[z]) i=qJ L i:=by simp[qJ,Lg,List.getElem?_append_left h]
  rw[e1,e2];exact(hx i h).kb hk
 ·obtain rfl:i=L.length:=by omega
  have e1:(vs++[x]).getD L.length undef=x:=by simp[Lg,←hl]
  have e2:qJ (L++[z]) L.length=z:=by simp[qJ,Lg]
  rw[e1,e2];exact hz.kb hk
theorem yo:(Tryz.prog.info? 24).map (fun i=>(i.zero,i.size,i.bytes))=some (some (.slice none 0 0),1,24):=by kernel_rfl
theorem qR {ops:Array Oper}{rest:List Oper}{o:Oper}{act:Act}{w:World}{Q:Exit→Act→World→Prop}(hg:o.guard=none)(x:Operand)(ho:o.op= .buildSlice 60 1 #[(0,x)])(a:Option Addr)(n k:Nat)(hx:act.eval x= .slice a n k)
  (h:wpList Tryz.prog ops Q rest (act.put o.dst (.slice (some ⟨w.heap.size,0,none⟩) 1 1)) (w.alloc (.cells #[.slice a n k] 24))):wpList Tryz.prog ops Q (o::rest) act w:=by
 obtain⟨ib,hib,hzb,hsb, -⟩:=info_parts yo;exact wpList_buildSlice hg 60 24 1 _ ho #[.slice a n k] ib _ Tryz.underlying60 hib hzb (by rw[hsb];decide) (by rw[hsb];decide) (by rw[hsb,show Array.range (1*1)= #[0] by decide];simp[hx,Instr.fill,Value.cells]) h
end Go.Proofs.YtdndeffmlhaipaaGreatDoor
namespace Go.Proofs.YtdndeffmlhaipaaGreatDoor
open Go.ChangeShapes Go.WideShapes Go.ChangeAt Go.RowKit Go.Joins Go.Shelf Go.Maps
open Go.Lib (hid)
theorem YN {n d j:Nat}(hd:1≤d):j<qL n d↔j*d<n:=by
 have h1:=Nat.div_add_mod n d;have h2:=Nat.mod_lt n (show 0<d by omega);unfold qL;split
 ·rename_i h0;rw[h0,Nat.add_zero]at h1;conv=>rhs;rw[←h1,Nat.mul_comm]
  exact(Nat.mul_lt_mul_left (show 0<d by omega)).symm
 ·constructor
  ·intro h;have h3:j*d≤(n/d)*d:=Nat.mul_le_mul_right d (by omega);rw[Nat.mul_comm (n/d) d]at h3;omega
  ·intro h;have h3:j*d<(n/d+1)*d:=by rw[Nat.add_mul,Nat.one_mul,Nat.mul_comm (n/d) d];omega
   exact Nat.lt_of_mul_lt_mul_right h3
def ZE {α:Type}(n:Nat)(L:List α)(i:Nat):List α:=(L.drop (i*n)).take n
def yZ {α:Type}(n:Nat)(L:List α)(m:Nat):List (List α):=(List.range m).map (ZE n L)
theorem zg {α:Type}(n:Nat)(L:List α)(m:Nat):yZ n L (m+1)=yZ n L m++[ZE n L m]:=by simp[yZ,List.range_succ]
theorem qO {α:Type}(n:Nat)(L:List α)(m:Nat):(yZ n L m).length=m:=by simp[yZ]
def yJ (n:Nat)(zs:List Int):List (List Int):=if zs=[] then [[]] else yZ n zs (qL zs.length n)
def YX (f:Nat)(L:List (List Int))(m:Nat):List (List Int):=(List.range m).map fun i=>(ZE f L i).flatten
theorem Zq (f:Nat)(L:List (List Int))(m:Nat):YX f L (m+1)=YX f L m++[(ZE f L m).flatten]:=by simp[YX,List.range_succ]
theorem qS (f:Nat)(L:List (List Int))(m:Nat):(YX f L m).length=m:=by simp[YX]
def TreeV.rootZ (t:TreeV)(row n:Nat):Bool:=decide (t.f=0∨(row:Int)=t.p - 1∨(n:Int)≤t.f)
def TreeV.upZ (t:TreeV)(row:Nat)(L:List (List Int)):List (List Int):=if t.rootZ row L.length then [L.flatten] else YX t.fn L (qL L.length t.fn)
theorem Yk {L M:List (List Int)}(h:M.Sublist L):M.flatten.length≤L.flatten.length:=by
 induction h with
 | slnil=>exact Nat.le_refl _
 | cons a _ ih=>simp only[List.flatten_cons,List.length_append];omega
 | cons_cons a _ ih=>simp only[List.flatten_cons,List.length_append];omega
theorem Z4 {α:Type}(n:Nat)(L:List α)(i:Nat):(ZE n L i).Sublist L:=(List.take_sublist _ _).trans (List.drop_sublist _ _)
theorem qdh (L:List (List Int))(k i:Nat):qJ (L.drop k) i=qJ L (k+i):=by simp[qJ,Lg,List.getElem?_drop]
theorem qdg {L:List (List Int)}{k i:Nat}(h:i<k):qJ (L.take k) i=qJ L i:=by simp[qJ,Lg,List.getElem?_take,h]
theorem ListH.take {w:World}{a:Option Addr}{n c k:Nat}{L:List (List Int)}(h:ListH w (.slice a n c) L)(hk:k≤L.length):ListH w (.slice a k k) (L.take k):=by
 obtain⟨a',c',e,h1,h2,h3⟩:=h;simp only[Value.slice.injEq]at e;obtain⟨rfl, -,rfl⟩:=e;have hl:(L.take k).length=k:=by simp;omega
 refine⟨a,k,by rw[hl],by omega,by omega,?_⟩;by_cases h0:L.take k=[]
 ·exact .inl h0
 rcases h3 with h3|⟨g,off,rfl,h4,h5⟩
 ·rw[h3]at h0;simp at h0
 ·refine .inr ⟨g,off,rfl,h4,fun i hi=>?_⟩;obtain⟨x,h6,h7⟩:=h5 i (by omega);exact⟨x,h6,by rw[qdg (by omega)];exact h7⟩
theorem ListH.drop {w:World}{a a':Option Addr}{n c k n' c':Nat}{L:List (List Int)}(h:ListH w (.slice a n c) L)(hk:k≤L.length)(hn:n'=L.length - k)(hc:c'=c - k)(g off:Nat)(ha:a=some ⟨g,off,none⟩)(ha':a'=some ⟨g,off+k,none⟩∨a'=some ⟨g,off,none⟩∧c≤k):ListH w (.slice a' n' c') (L.drop k):=by
 subst ha;obtain⟨a1,c1,e,h1,h2,h3⟩:=h;simp only[Value.slice.injEq]at e;obtain⟨rfl, -,rfl⟩:=e;refine⟨a',c',by simp[hn],by simp;omega,by omega,?_⟩;by_cases h0:L.drop k=[]
 ·exact .inl h0
 have hlt:k<L.length:=Nat.lt_of_not_le fun h4=>h0 (List.drop_eq_nil_of_le h4)
 rcases ha' with rfl|⟨-,h4⟩
 ·rcases h3 with h3|⟨g',off',e,h4,h5⟩
  ·rw[h3]at hlt;simp at hlt
  ·simp only[Option.some.injEq,Addr.mk.injEq,and_true]at e;obtain⟨rfl,rfl⟩:=e;refine .inr ⟨g,off+k,rfl,h4,fun i hi=>?_⟩;obtain⟨x,h6,h7⟩:=h5 (k+i) (by simp at hi;omega);exact⟨x,by rw[Nat.add_assoc];exact h6,by rw[qdh];exact h7⟩
 ·omega
end Go.Proofs.YtdndeffmlhaipaaGreatDoor
namespace Go.Proofs.YtdndeffmlhaipaaGreatDoor
open Go.ChangeShapes Go.WideShapes Go.ChangeAt Go.RowKit Go.Joins Go.Shelf Go.Maps
open Go.Lib (hid)
attribute [local go_sem] Oper.semAt_some
theorem J9 {B:Nat}{w:World}{x:Value}{z:List Int}(hx:OwnB B w x z)(hB:B≤w.heap.size):ListO B (w.alloc (.cells #[x] 24)) (.slice (some ⟨w.heap.size,0,none⟩) 1 1) [z]:=by
 refine⟨[x],⟨rfl,.inr ⟨w.heap.size,1,#[x],rfl,hB,Wn w _,Nat.le_refl _,by unfold maxLen;omega,rfl,rfl⟩⟩,fun i hi=>?_⟩;obtain rfl:i=0:=by simpa using hi
 exact hx.kb (KB.of_below (Br.alloc Nl _) hB)
theorem Zu {L:List (List Int)}(h: ∀z∈L,∀a∈z,0≤a∧a≤255): ∀a∈L.flatten,0≤a∧a≤255:=fun a ha=>by
 obtain⟨z,hz,ha⟩:=List.mem_flatten.1 ha;exact h z hz a ha
theorem ListH.bytes {w:World}{v:Value}{L:List (List Int)}(h:ListH w v L): ∀z∈L,∀a∈z,0≤a∧a≤255:=fun z hz a ha=>by
 obtain⟨a',cap, -, -, -,h3⟩:=h;rcases h3 with rfl|⟨g,off, -, -,h5⟩
 ·cases hz
 ·obtain⟨i,hi,rfl⟩:=List.mem_iff_getElem.1 hz;obtain⟨x, -,h7⟩:=h5 i hi;have e:qJ L i=L[i]:=by unfold qJ;rw[Lg,List.getElem?_eq_getElem hi];rfl
  rw[e]at h7;exact h7.1 a ha
theorem yE {B n:Nat}{w:World}{x:Value}{z:List Int}(hz: ∀a∈z,0≤a∧a≤255)(h:w.ownsRow B 5 1 x n (z.map qv)):OwnB B w x z:=⟨hz,yW h⟩
theorem qbJ (t:TreeV)(h:t.validE=0)(row:Nat)(hr:row≤255)(L:List (List Int))(v:Value)(w:World)(hL:ListH w v L)(hn:L.flatten.length≤1073741824)(hn2:L.length≤16777216)(hne:L≠[]):
  Calls Tryz.prog 46 #[t.val,.int .i64 (row:Nat),v] w fun e w'=> ∃u,e= .returned (.tuple #[u,.bool (t.rootZ row L.length)])∧ListO w.heap.size w' u (t.upZ row L)∧Below w.heap.size w w':=by
 obtain⟨b0,hb0⟩:=Ex w.heap.size;have hvf:=qd h;have hf1:=hvf.2.2.2.2.2.1;have hp1:2≤t.p∧t.p≤255:=⟨hvf.2.2.2.2.2.2.1,hvf.2.2.2.2.2.2.2.1⟩;have hroot:t.rootZ row L.length=decide (t.f=0∨(row:Int)=t.p - 1∨(L.length:Int)≤t.f):=rfl;have hup:t.upZ row L=if t.rootZ row L.length then [L.flatten] else YX t.fn L (qL L.length t.fn):=rfl
 have hfn:(t.fn:Int)=t.f:=by unfold TreeV.fn;omega
 generalize t.upZ row L=U at*;generalize t.rootZ row L.length=rt at*;generalize t.fn=fn at*;obtain⟨k,d,f,p,l,i,ka,kl,kc,sa,sl,sc,pa,pl,pc⟩:=t;unfold TreeV.val;simp only at*
 clear hvf h;have hlp:0<L.length:=List.length_pos_iff.2 hne;have HL:=hid hL;have HBY:=hid hL.bytes;have HN:=hid hn;have HUP:=hid hup;obtain⟨a,cap,rfl,hc1,hc2, -⟩:=hL;clear hup hne hn;have hbA:Below b0 w (w.alloc (.cells #[.int .i64 k,.int .i64 d,.int .i64 f,.int .i64 p,.int .u32 l,.int .i64 i,.slice ka kl kc,.slice sa sl sc,.slice pa pl pc] 26)):=by rw[←hb0];exact Br.alloc Nl _
 have hrA:=Wn w (.cells #[.int .i64 k,.int .i64 d,.int .i64 f,.int .i64 p,.int .u32 l,.int .i64 i,.slice ka kl kc,.slice sa sl sc,.slice pa pl pc] 26);rw[hb0]at hrA;go_enter Tryz.func46,Tryz.ntmps46
 go_upto_region 1 with(fail)
 generalize w.alloc (.cells #[.int .i64 k,.int .i64 d,.int .i64 f,.int .i64 p,.int .u32 l,.int .i64 i,.slice ka kl kc,.slice sa sl sc,.slice pa pl pc] 26)=wA at*;have c2:wA.cell? ⟨b0,2,none⟩=some (.int .i64 f):=qa hrA 2;have c3:wA.cell? ⟨b0,3,none⟩=some (.int .i64 p):=qa hrA 3;have hbs:b0<wA.heap.size:=(Ai hrA).1;have HRA:=hid hrA;have HBA:=hid hbA;clear hrA hbA;go_cut [2,3,26] from 1 (fun x y u W=>x= .slice a L.length cap∧y= .pointer (some ⟨b0,0,none⟩)∧u= .bool rt∧wA=W)
 case first=>
  by_cases h1:f=0
  case pos=>
   obtain rfl:rt=true:=by rw[hroot];exact decide_eq_true (.inl h1)
   have q1:(f==0)=true:=by rw[beq_iff_eq];exact h1
   clear hroot;subst h1;go_wp2
   go_meet
   case rel=>exact⟨rfl,rfl,rfl,by trivial⟩
  by_cases h2:(row:Int)=p - 1
  case pos=>
   obtain rfl:rt=true:=by rw[hroot];exact decide_eq_true (.inr (.inl h2))
   clear hroot;go_wp2
   go_meet
   case rel=>exact⟨rfl,rfl,rfl,by trivial⟩
  by_cases h3:(L.length:Int)≤f
  case pos=>
   obtain rfl:rt=true:=by rw[hroot];exact decide_eq_true (.inr (.inr h3))
   clear hroot;go_wp2
   go_meet
   case rel=>exact⟨rfl,rfl,rfl,by trivial⟩
  obtain rfl:rt=false:=by rw[hroot];exact decide_eq_false (by rintro(h|h|h);exact h1 h;exact h2 h;exact h3 h)
  clear hroot;go_wp2
  go_meet
  case rel=>exact⟨rfl,rfl,by simp[h1,h2],by trivial⟩
 case rest=>
  obtain⟨rfl,rfl,rfl,rfl⟩:=hcut;clear c3;have hLA:=HL.out.below (hb0▸HBA.out);obtain⟨ib,hib,hzb,hsb,hbb⟩:=info_parts yo
  cases rt
  case true=>
   go_wp2_with fail
   refine(Z6 L _ _ hLA (by have:=HN.out;omega)).mono ?_;rintro e w2 ⟨u,rfl,ho,hb⟩;have hO:=yE (Zu HBY.out) ho;have hB:=HBA.out.trans (hb.mono (by omega));have HO:=hid (J9 (hO.le (show b0≤wA.heap.size by omega)) (by have:=hb.size;omega));have HB2:=hid (hB.alloc (by have:=hb.size;omega) (.cells #[u] 24));have hu:=hO.one;obtain⟨a6,n6,k6,rfl⟩:=qs ho;clear ho hb hO hB hu;go_wp2_with ((with_reducible show wpList _ _ _ (Oper.mk _ (Op.buildSlice _ _ _) _ _ _ _::_) _ _);refine qR rfl _ rfl _ _ _ rfl ?_)
   go_ret2
   exact⟨_,rfl,by rw[hb0,HUP.out,if_pos trivial];exact HO.out,by rw[hb0];exact HB2.out⟩
  case false=>
   have hnr: ¬(f=0∨(row:Int)=p - 1∨(L.length:Int)≤f):=of_decide_eq_false hroot.symm;have hf2:2≤f∧f≤255∧f<L.length:=by omega
   have HUP2:=hid (show U=YX fn L (qL L.length fn) from HUP.out.trans (if_neg (by simp)));clear hroot hf1 hnr HUP;subst hfn;go_wp2_with fail
   go_loopw [2,8] (fun x s wr=> ∃j:Nat,j≤qL L.length fn∧ListH w x (L.drop (j*fn))∧ListO (b0+1) wr s (YX fn L j)∧Below b0 w wr∧wr.heap[b0]? =some (.cells #[.int .i64 k,.int .i64 d,.int .i64 (fn:Int),.int .i64 p,.int .u32 l,.int .i64 i,.slice ka kl kc,.slice sa sl sc,.slice pa pl pc] 26 (0,0))) (fun x _ _=>qbe x)
   case atStart=>exact⟨0,Nat.zero_le _,by rw[Nat.zero_mul];exact HL.out,ListO.nil _ _,HBA.out,HRA.out⟩
   case round=>
    obtain⟨j,hj,hx,ho,hb,hrT⟩:=hrel;have c2:wr.cell? ⟨b0,2,none⟩=some (.int .i64 (fn:Int)):=qa hrT 2;have hbs:b0<wr.heap.size:=(Ai hrT).1;have HRT:=hid hrT;clear hrT;have hd1:1≤fn:=by omega
    obtain⟨a1,cp,rfl,hx1,hx2, -⟩:=id hx;have HX:=hid hx;have HO:=hid ho;have HB:=hid hb;have hdl:(L.drop (j*fn)).length=L.length - j*fn:=by simp
    obtain⟨m,hm⟩:=Ex ((L.drop (j*fn)).length);rw[hm]at hx1 hdl⊢;have HDL:=hid hdl;clear hx ho hb hdl;by_cases hlt:0<m
    case pos=>
     have hj2:j<qL L.length fn:=(YN hd1).2 (by have:=HDL.out;omega);obtain⟨k,hk⟩:=Ex (min fn m);have HK:=hid hk;have hkm:1≤k∧k≤m∧k≤cp:=by omega
     have hmi:min (fn:Int) (m:Int)=(k:Int):=by omega
     have hm2:0<(m:Int):=by omega
     clear hk;obtain⟨g,off,rfl,hgs, -⟩: ∃g off,a1=some ⟨g,off,none⟩∧g<w.heap.size∧True:=by
      obtain⟨a',c',e, -, -,h3⟩:=HX.out;rcases h3 with h3|⟨g,off,rfl,h4, -⟩
      ·rw[h3]at hm;simp at hm;omega
      ·simp only[Value.slice.injEq]at e;exact⟨g,off,e.1,h4,trivial⟩
     have hpk:ZE fn L j=(L.drop (j*fn)).take k:=by
      unfold ZE;by_cases h:fn≤m
      ·rw[show k=fn by have:=HK.out;omega]
      ·rw[show k=m by have:=HK.out;omega,List.take_of_length_le (by omega),List.take_of_length_le (by omega)]
     have HPK:=hid hpk;have HTK:=hid ((ListH.take HX.out (k:=k) (by omega)).below (hb0▸HB.out));have hfl:=Nat.le_trans (Yk (Z4 fn L j)) HN.out;rw[hpk]at hfl;have HFL:=hid hfl;have hkc:(k:Int)≤(cp:Int)∧(k:Int)≤(m:Int)∧0≤(k:Int):=by omega
     obtain⟨hkc1,hkc2,hkc3⟩:=hkc;obtain⟨vs,hvo,hvx⟩:=HO.out;have hvl:vs.length=j:=by have:=hvo.1;rw[qS]at this;omega
     rw[qS]at hvo hvx;have HVX:=hid hvx;obtain⟨a8,n8,k8,rfl⟩:=qs hvo;have HVO:=hid hvo;have hj3:j+1≤16777217:=by have:=Yn (n:=L.length) hd1;omega
     clear hpk hfl hvo hvx;have HM:=hid hm;have hb2s:b0+1≤wr.heap.size:=by omega
     have HBY2:=hid (show ∀z∈(L.drop (j*fn)).take k,∀a∈z,0≤a∧a≤255 from fun z hz=>HBY.out z (List.mem_of_mem_drop (List.mem_of_mem_take hz)));have hlk:((L.drop (j*fn)).take k).length=k:=by rw[List.length_take];omega
     clear hm;by_cases hck:k=cp
     case pos=>
      subst hck;go_wp2_with fail
      refine(Z6 ((L.drop (j*fn)).take k) _ _ HTK.out (by have:=HFL.out;omega)).mono ?_;rintro e w2 ⟨u,rfl,ho2,hb2⟩;have hO:=yE (Zu HBY2.out) ho2;have HO2:=hid (hO.le hb2s);have hs2:=hb2.size;have HK2:=hid (KB.of_below hb2 hb2s);have HV2:=hid (show w2.ownsRow (b0+1) 24 1 (.slice a8 n8 k8) j vs from qf HVO.out (fun g _ g2=>hb2.block g g2));obtain⟨a6,n6,k6,rfl⟩:=qs ho2;have HB2:=hid hb2;clear ho2 hb2 hO;go_wp2_with (first|((with_reducible show wpList _ _ _ (Oper.mk _ (Op.buildSlice _ _ _) _ _ _ _::_) _ _);refine qR rfl _ rfl _ _ _ rfl ?_)|(at_builtin;refine Q4 rfl _ _ _ rfl (b0+1) 24 (by decide) ib (.slice none 0 0) 1 24 Tryz.underlying60 hib hzb hsb hbb rfl (by decide) (.slice a8 n8 k8) j vs [.slice a6 n6 k6] _ rfl HV2.out rfl rfl (by simp[Value.oneCell']) (by unfold maxLen;omega) (by omega) (by omega) ?_;intro v' w' hown' hkb' hsp'))
      have hmk:m=k:=by omega
      have hd0:(L.drop (j*fn)).drop k=L.drop ((j+1)*fn):=by
       rw[List.drop_drop,Nat.add_mul,Nat.one_mul,List.drop_eq_nil_of_le (by have:=HDL.out;omega),List.drop_eq_nil_of_le (by have:=HDL.out;have:=HK.out;omega)]
      refine⟨⟨j+1,by omega,?_,?_,HB.out.trans ((HB2.out.mono (by omega)).trans (hkb'.below.mono (by omega))),(hkb'.block b0 (by omega)).trans (qb HRT.out HB2.out)⟩,by simp[qbe];omega⟩
      ·rw[←hd0];exact ListH.drop HX.out (by have:=HM.out;omega) (by have:=HM.out;omega) (by omega) g off rfl (.inr ⟨rfl,Nat.le_refl _⟩)
      ·rw[Zq];refine ListO.snoc (w:=w2) (vs:=vs) (x:= .slice a6 n6 k6) (fun i hi=>?_) (by rw[qS];exact hvl) (by rw[HPK.out];exact HO2.out) (by rw[qS];exact hown') hkb';rw[qS]at hi;exact(HVX.out i hi).kb HK2.out
     go_wp2_with fail
     refine(Z6 ((L.drop (j*fn)).take k) _ _ HTK.out (by have:=HFL.out;omega)).mono ?_;rintro e w2 ⟨u,rfl,ho2,hb2⟩;have hO:=yE (Zu HBY2.out) ho2;have HO2:=hid (hO.le hb2s);have hs2:=hb2.size;have HK2:=hid (KB.of_below hb2 hb2s);have HV2:=hid (show w2.ownsRow (b0+1) 24 1 (.slice a8 n8 k8) j vs from qf HVO.out (fun g _ g2=>hb2.block g g2));obtain⟨a6,n6,k6,rfl⟩:=qs ho2;have HB2:=hid hb2;clear ho2 hb2 hO;go_wp2_with (first|((with_reducible show wpList _ _ _ (Oper.mk _ (Op.buildSlice _ _ _) _ _ _ _::_) _ _);refine qR rfl _ rfl _ _ _ rfl ?_)|(at_builtin;refine Q4 rfl _ _ _ rfl (b0+1) 24 (by decide) ib (.slice none 0 0) 1 24 Tryz.underlying60 hib hzb hsb hbb rfl (by decide) (.slice a8 n8 k8) j vs [.slice a6 n6 k6] _ rfl HV2.out rfl rfl (by simp[Value.oneCell']) (by unfold maxLen;omega) (by omega) (by omega) ?_;intro v' w' hown' hkb' hsp'))
     have hd0:(L.drop (j*fn)).drop k=L.drop ((j+1)*fn):=by
      rw[List.drop_drop,Nat.add_mul,Nat.one_mul];by_cases h:fn≤m
      ·rw[show k=fn by have:=HK.out;omega]
      ·rw[List.drop_eq_nil_of_le (by have:=HDL.out;have:=HK.out;omega),List.drop_eq_nil_of_le (by have:=HDL.out;have:=HK.out;omega)]
     refine⟨⟨j+1,by omega,?_,?_,HB.out.trans ((HB2.out.mono (by omega)).trans (hkb'.below.mono (by omega))),(hkb'.block b0 (by omega)).trans (qb HRT.out HB2.out)⟩,by simp[qbe];omega⟩
     ·rw[←hd0];exact ListH.drop HX.out (by have:=HM.out;omega) (by have:=HM.out;omega) (by omega) g off rfl (.inl rfl)
     ·rw[Zq];refine ListO.snoc (w:=w2) (vs:=vs) (x:= .slice a6 n6 k6) (fun i hi=>?_) (by rw[qS];exact hvl) (by rw[HPK.out];exact HO2.out) (by rw[qS];exact hown') hkb';rw[qS]at hi;exact(HVX.out i hi).kb HK2.out
    have hm0:m=0:=by omega
    have hjc:qL L.length fn≤j:=Nat.le_of_not_lt fun h=>by
     have:=(YN hd1).1 h
     have:=HDL.out
     omega
    obtain rfl:j=qL L.length fn:=by omega
    subst hm0;clear hm;have HOr:=hid (HO.out.le (show b0≤b0+1 by omega));go_wp2
    go_ret2
    exact⟨_,rfl,by rw[hb0,HUP2.out];exact HOr.out,by rw[hb0];exact HB.out⟩
theorem qen (t:TreeV)(h:t.validE=0)(hl:0≤t.l∧t.l≤4294967295)(zs:List Int)(v:Value)(w:World)(hv:Hold w v zs)(hn:zs.length≤16777216):
  Calls Tryz.prog 36 #[t.val,v] w fun e w'=> ∃u,e= .returned u∧ListO w.heap.size w' u (yJ t.ln zs)∧Below w.heap.size w w':=by
 obtain⟨b0,hb0⟩:=Ex w.heap.size;have hvf:=qd h;have hl0:t.l≠0:=hvf.2.2.2.2.2.2.2.2.1;have hln:(t.ln:Int)=t.l:=by unfold TreeV.ln;omega
 have hd1:1≤t.ln:=by omega
 have hln2:(t.ln:Int)≤4294967295:=by omega
 generalize t.ln=ln at*;obtain⟨k,d,f,p,l,i,ka,kl,kc,sa,sl,sc,pa,pl,pc⟩:=t;unfold TreeV.val;simp only at*
 clear hvf h hl hl0;subst hln;obtain⟨ib,hib,hzb,hsb,hbb⟩:=info_parts yo;obtain⟨i0,hi,hz0,hz1,hz2⟩:=info_parts QH;have HV:=hid hv;obtain⟨a,cap,rfl,hc1,hc2⟩:=hv.slice;clear hv;have hbA:Below b0 w (w.alloc (.cells #[.int .i64 k,.int .i64 d,.int .i64 f,.int .i64 p,.int .u32 (ln:Int),.int .i64 i,.slice ka kl kc,.slice sa sl sc,.slice pa pl pc] 26)):=by rw[←hb0];exact Br.alloc Nl _
 have hrA:=Wn w (.cells #[.int .i64 k,.int .i64 d,.int .i64 f,.int .i64 p,.int .u32 (ln:Int),.int .i64 i,.slice ka kl kc,.slice sa sl sc,.slice pa pl pc] 26);rw[hb0]at hrA;go_enter Tryz.func36,Tryz.ntmps36
 go_upto_region 1 with(fail)
 generalize w.alloc (.cells #[.int .i64 k,.int .i64 d,.int .i64 f,.int .i64 p,.int .u32 (ln:Int),.int .i64 i,.slice ka kl kc,.slice sa sl sc,.slice pa pl pc] 26)=wA at*;have c4:wA.cell? ⟨b0,4,none⟩=some (.int .u32 (ln:Int)):=qa hrA 4;have hbs:b0<wA.heap.size:=(Ai hrA).1;have HBA:=hid hbA;clear hrA hbA;by_cases h0:zs=[]
 case pos=>
  subst h0;have HR:=hid (J9 (B:=b0) (w:=wA) (x:= .slice none 0 0) (z:=[]) ⟨fun _ h=>by simp at h,.inl ⟨rfl,rfl⟩⟩ (by omega));have HB:=hid (HBA.out.alloc (show b0≤wA.heap.size by omega) (.cells #[.slice none 0 0] 24));go_wp2_with ((with_reducible show wpList _ _ _ (Oper.mk _ (Op.buildSlice _ _ _) _ _ _ _::_) _ _);refine qR rfl _ rfl _ _ _ rfl ?_)
  go_ret
  exact⟨_,rfl,by rw[hb0];exact HR.out,by rw[hb0];exact HB.out⟩
 have hlp:0<zs.length:=List.length_pos_iff.2 h0;have hcz:yJ ln zs=yZ ln zs (qL zs.length ln):=if_neg h0;have HCZ:=hid hcz;have hlp2:((zs.length:Int)==0)=false:=beq_eq_false_iff_ne.2 (by omega);clear h0 hcz;go_wp2_with fail
 go_loopw [1,5] (fun x s wr=> ∃j:Nat,j≤qL zs.length ln∧Hold w x (zs.drop (j*ln))∧ListO b0 wr s (yZ ln zs j)∧Below b0 w wr) (fun x _ _=>qbe x)
 case atStart=>exact⟨0,Nat.zero_le _,by rw[Nat.zero_mul];exact HV.out,ListO.nil _ _,HBA.out⟩
 case round=>
  obtain⟨j,hj,hx,ho,hb⟩:=hrel;obtain⟨a1,cp,rfl,hx1,hx2⟩:=id hx.slice;have HX:=hid hx;have HO:=hid ho;have HB:=hid hb;have hdl:(zs.drop (j*ln)).length=zs.length - j*ln:=by simp
  obtain⟨m,hm⟩:=Ex ((zs.drop (j*ln)).length);rw[hm]at hx1 hdl⊢;have HDL:=hid hdl;have hbb0:b0≤wr.heap.size:=by have:=hb.size;omega
  clear hx ho hb hdl;by_cases hlt:0<m
  case pos=>
   have hj2:j<qL zs.length ln:=(YN hd1).2 (by have:=HDL.out;omega);obtain⟨k,hk⟩:=Ex (min ln m);have HK:=hid hk;have hmn:m≤16777216:=by have:=HDL.out;omega
   have hkm:1≤k∧k≤m∧k≤cp:=by omega
   have hmi:min (ln:Int) (m:Int)=(k:Int):=by omega
   have hm2:0<(m:Int):=by omega
   obtain⟨g,off,rfl⟩:=Z7 HX.out (by rintro e;rw[e]at hm;simp at hm;omega);have hpk:ZE ln zs j=(zs.drop (j*ln)).take k:=by
    unfold ZE;by_cases h:ln≤m
    ·rw[show k=ln by have:=HK.out;omega]
    ·rw[show k=m by have:=HK.out;omega,List.take_of_length_le (by omega),List.take_of_length_le (by omega)]
   have HPK:=hid hpk;have hlk:((zs.drop (j*ln)).take k).length=k:=by rw[List.length_take];omega
   have HLK:=hid hlk;have HSR:=hid ((HX.out.below (hb0▸HB.out)).src);have HZ:=hid (show ∀z∈(zs.drop (j*ln)).take k,0≤z∧z≤255 from fun z hz=>HX.out.1 z (List.mem_of_mem_take hz));obtain⟨vs,hvo,hvx⟩:=HO.out;have hvl:vs.length=j:=by have:=hvo.1;rw[qO]at this;omega
   rw[qO]at hvo hvx;have HVX:=hid hvx;obtain⟨a8,n8,k8,rfl⟩:=qs hvo;have HVO:=hid hvo;have hj3:j+1≤16777217:=by have:=Yn (n:=zs.length) hd1;omega
   have hkc:(k:Int)≤(cp:Int)∧(k:Int)≤(m:Int)∧0≤(k:Int):=by omega
   obtain⟨hkc1,hkc2,hkc3⟩:=hkc;have HM:=hid hm;have hmk:=fun W:World=>run_make (P:=Tryz.prog) W 24 5 i0 (.int .u8 0) Tryz.underlying24 hi hz0 .i64 .i64 k k (by omega) (by omega) (by rw[hz2];omega) (by omega)
   simp only[hz1]at hmk;have hmc:madeCells #[.int .u8 0] k=(List.replicate k (.int .u8 0)).toArray:=by
    apply Array.toList_inj.1
    rw[toList_madeCells_one]
   have HMC:=hid hmc;clear hk hpk hlk hvo hvx hm hmc;by_cases hck:k=cp
   case pos=>
    subst hck;go_upto_region 8 with(fail)
    obtain⟨gl,hgl⟩:=Ex wr.heap.size;have hgr:(wr.alloc (.cells (madeCells #[.int .u8 0] k) 5)).heap[gl]? =some (.cells (List.replicate k (.int .u8 0)).toArray 5 (0,0)):=by rw[←HMC.out,←hgl];exact Wn _ _
    have hbl:Below gl wr (wr.alloc (.cells (madeCells #[.int .u8 0] k) 5)):=by rw[←hgl];exact Br.alloc Nl _
    rw[hgl];generalize wr.alloc (.cells (madeCells #[.int .u8 0] k) 5)=w3 at*;have hsr:=HSR.out.below (hgl▸hbl);have hcs: ∀(i:Nat) (v:Value),(((zs.drop (j*ln)).take k).map qv)[i]? =some v→w3.cell? ((⟨g,off,none⟩:Addr).add i)=some v:=fun i v hiv=>by
     rcases hsr.2.2 with⟨e, -⟩|⟨ad,c,e,h2⟩
     ·cases e
     ·simp only[Value.slice.injEq,Option.some.injEq]at e;obtain⟨rfl, -, -⟩:=e;refine h2 i v ?_;rw[List.getElem?_map]at hiv⊢;by_cases hik:i<k
      ·rw[List.getElem?_take,if_pos hik]at hiv;exact hiv
      ·rw[List.getElem?_take,if_neg hik]at hiv;cases hiv
    clear hmk;go_upto_region 9 with((with_reducible show wpList _ _ _ (Oper.mk (some 27) _ _ _ _ _::_) _ _);refine wpList_copy_splice rfl _ _ _ _ rfl 5 Tryz.underlying24 (by rw[hi];simp[hz1]) _ _ _ _ _ _ rfl rfl gl 0 (List.replicate k (.int .u8 0)) 5 hgr (((zs.drop (j*ln)).take k).map qv) (by rw[List.length_map,HLK.out];exact(Nat.min_eq_right (by omega)).symm) (fun _=>⟨rfl,⟨g,off,none⟩,rfl,hcs⟩) (by rw[List.length_map,HLK.out,List.length_replicate];omega) (fun u hu=>by obtain⟨z, -,rfl⟩:=List.mem_map.1 hu;rfl) gl wr hbl Nl ?_;intro w4 hg4 hb4)
    have hsp:splice (List.replicate k (.int .u8 0)) 0 (((zs.drop (j*ln)).take k).map qv)=((zs.drop (j*ln)).take k).map qv:=by
     have:=HLK.out
     simp only[splice,List.take_zero,List.nil_append,List.length_map,this,Nat.zero_add,List.drop_replicate,Nat.sub_self,List.replicate_zero,List.append_nil]
    have HO4:=hid (show OwnB b0 w4 (.slice (some ⟨gl,0,none⟩) k k) ((zs.drop (j*ln)).take k) from yE HZ.out ⟨by rw[List.length_map,HLK.out,Nat.mul_one],.inr ⟨gl,k,_,rfl,by omega,hg4.out,Nat.le_refl _,by unfold maxLen;omega,by rw[hsp,List.size_toArray,List.length_map,HLK.out,Nat.mul_one],by rw[hsp,List.toList_toArray,List.take_of_length_le (by rw[List.length_map,HLK.out,Nat.mul_one];omega)]⟩⟩);have hb4':Below wr.heap.size wr w4:=hgl▸hb4;have HK4:=hid (KB.of_below hb4' hbb0);have HB4:=hid hb4';have HV4:=hid (show w4.ownsRow b0 24 1 (.slice a8 n8 k8) j vs from qf HVO.out (fun g _ g2=>hb4'.block g g2));have hs4:=hb4'.size;clear hsp hsr hcs hg4 hb4 hb4' hgr hbl;go_wp2_with (first|((with_reducible show wpList _ _ _ (Oper.mk _ (Op.buildSlice _ _ _) _ _ _ _::_) _ _);refine qR rfl _ rfl _ _ _ rfl ?_)|(at_builtin;refine Q4 rfl _ _ _ rfl b0 24 (by decide) ib (.slice none 0 0) 1 24 Tryz.underlying60 hib hzb hsb hbb rfl (by decide) (.slice a8 n8 k8) j vs [.slice (some ⟨gl,0,none⟩) k k] _ rfl HV4.out rfl rfl (by simp[Value.oneCell']) (by unfold maxLen;omega) (by omega) (by omega) ?_;intro v' w' hown' hkb' hsp'))
    have hd0:(zs.drop (j*ln)).drop k=zs.drop ((j+1)*ln):=by
     rw[List.drop_drop,Nat.add_mul,Nat.one_mul];by_cases h:ln≤m
     ·rw[show k=ln by have:=HK.out;omega]
     ·rw[List.drop_eq_nil_of_le (by have:=HDL.out;have:=HK.out;omega),List.drop_eq_nil_of_le (by have:=HDL.out;have:=HK.out;omega)]
    refine⟨⟨j+1,by omega,?_,?_,HB.out.trans ((HB4.out.mono hbb0).trans hkb'.below)⟩,by simp[qbe];omega⟩
    ·rw[←hd0];exact zP HX.out (by have:=HM.out;omega) (by have:=HM.out;omega) (by omega) g off rfl (.inr ⟨rfl,rfl⟩)
    ·rw[zg];refine ListO.snoc (w:=w4) (vs:=vs) (x:= .slice (some ⟨gl,0,none⟩) k k) (fun i hi=>?_) (by rw[qO];exact hvl) (by rw[HPK.out];exact HO4.out) (by rw[qO];exact hown') hkb';rw[qO]at hi;exact(HVX.out i hi).kb HK4.out
   go_upto_region 8 with(fail)
   obtain⟨gl,hgl⟩:=Ex wr.heap.size;have hgr:(wr.alloc (.cells (madeCells #[.int .u8 0] k) 5)).heap[gl]? =some (.cells (List.replicate k (.int .u8 0)).toArray 5 (0,0)):=by rw[←HMC.out,←hgl];exact Wn _ _
   have hbl:Below gl wr (wr.alloc (.cells (madeCells #[.int .u8 0] k) 5)):=by rw[←hgl];exact Br.alloc Nl _
   rw[hgl];generalize wr.alloc (.cells (madeCells #[.int .u8 0] k) 5)=w3 at*;have hsr:=HSR.out.below (hgl▸hbl);have hcs: ∀(i:Nat) (v:Value),(((zs.drop (j*ln)).take k).map qv)[i]? =some v→w3.cell? ((⟨g,off,none⟩:Addr).add i)=some v:=fun i v hiv=>by
    rcases hsr.2.2 with⟨e, -⟩|⟨ad,c,e,h2⟩
    ·cases e
    ·simp only[Value.slice.injEq,Option.some.injEq]at e;obtain⟨rfl, -, -⟩:=e;refine h2 i v ?_;rw[List.getElem?_map]at hiv⊢;by_cases hik:i<k
     ·rw[List.getElem?_take,if_pos hik]at hiv;exact hiv
     ·rw[List.getElem?_take,if_neg hik]at hiv;cases hiv
   clear hmk;go_upto_region 9 with((with_reducible show wpList _ _ _ (Oper.mk (some 27) _ _ _ _ _::_) _ _);refine wpList_copy_splice rfl _ _ _ _ rfl 5 Tryz.underlying24 (by rw[hi];simp[hz1]) _ _ _ _ _ _ rfl rfl gl 0 (List.replicate k (.int .u8 0)) 5 hgr (((zs.drop (j*ln)).take k).map qv) (by rw[List.length_map,HLK.out];exact(Nat.min_eq_right (by omega)).symm) (fun _=>⟨rfl,⟨g,off,none⟩,rfl,hcs⟩) (by rw[List.length_map,HLK.out,List.length_replicate];omega) (fun u hu=>by obtain⟨z, -,rfl⟩:=List.mem_map.1 hu;rfl) gl wr hbl Nl ?_;intro w4 hg4 hb4)
   have hsp:splice (List.replicate k (.int .u8 0)) 0 (((zs.drop (j*ln)).take k).map qv)=((zs.drop (j*ln)).take k).map qv:=by
    have:=HLK.out
    simp only[splice,List.take_zero,List.nil_append,List.length_map,this,Nat.zero_add,List.drop_replicate,Nat.sub_self,List.replicate_zero,List.append_nil]
   have HO4:=hid (show OwnB b0 w4 (.slice (some ⟨gl,0,none⟩) k k) ((zs.drop (j*ln)).take k) from yE HZ.out ⟨by rw[List.length_map,HLK.out,Nat.mul_one],.inr ⟨gl,k,_,rfl,by omega,hg4.out,Nat.le_refl _,by unfold maxLen;omega,by rw[hsp,List.size_toArray,List.length_map,HLK.out,Nat.mul_one],by rw[hsp,List.toList_toArray,List.take_of_length_le (by rw[List.length_map,HLK.out,Nat.mul_one];omega)]⟩⟩);have hb4':Below wr.heap.size wr w4:=hgl▸hb4;have HK4:=hid (KB.of_below hb4' hbb0);have HB4:=hid hb4';have HV4:=hid (show w4.ownsRow b0 24 1 (.slice a8 n8 k8) j vs from qf HVO.out (fun g _ g2=>hb4'.block g g2));have hs4:=hb4'.size;clear hsp hsr hcs hg4 hb4 hb4' hgr hbl;go_wp2_with (first|((with_reducible show wpList _ _ _ (Oper.mk _ (Op.buildSlice _ _ _) _ _ _ _::_) _ _);refine qR rfl _ rfl _ _ _ rfl ?_)|(at_builtin;refine Q4 rfl _ _ _ rfl b0 24 (by decide) ib (.slice none 0 0) 1 24 Tryz.underlying60 hib hzb hsb hbb rfl (by decide) (.slice a8 n8 k8) j vs [.slice (some ⟨gl,0,none⟩) k k] _ rfl HV4.out rfl rfl (by simp[Value.oneCell']) (by unfold maxLen;omega) (by omega) (by omega) ?_;intro v' w' hown' hkb' hsp'))
   have hd0:(zs.drop (j*ln)).drop k=zs.drop ((j+1)*ln):=by
    rw[List.drop_drop,Nat.add_mul,Nat.one_mul];by_cases h:ln≤m
    ·rw[show k=ln by have:=HK.out;omega]
    ·rw[List.drop_eq_nil_of_le (by have:=HDL.out;have:=HK.out;omega),List.drop_eq_nil_of_le (by have:=HDL.out;have:=HK.out;omega)]
   refine⟨⟨j+1,by omega,?_,?_,HB.out.trans ((HB4.out.mono hbb0).trans hkb'.below)⟩,by simp[qbe];omega⟩
   ·rw[←hd0];exact zP HX.out (by have:=HM.out;omega) (by have:=HM.out;omega) (by omega) g off rfl (.inl rfl)
   ·rw[zg];refine ListO.snoc (w:=w4) (vs:=vs) (x:= .slice (some ⟨gl,0,none⟩) k k) (fun i hi=>?_) (by rw[qO];exact hvl) (by rw[HPK.out];exact HO4.out) (by rw[qO];exact hown') hkb';rw[qO]at hi;exact(HVX.out i hi).kb HK4.out
  have hm0:m=0:=by omega
  have hjc:qL zs.length ln≤j:=Nat.le_of_not_lt fun h=>by
   have:=(YN hd1).1 h
   have:=HDL.out
   omega
  obtain rfl:j=qL zs.length ln:=by omega
  subst hm0;clear hm;go_wp2
  go_ret
  exact⟨_,rfl,by rw[hb0,HCZ.out];exact HO.out,by rw[hb0];exact HB.out⟩
end Go.Proofs.YtdndeffmlhaipaaGreatDoor
namespace Go.Proofs.YtdndeffmlhaipaaGreatDoor
open Go.ChangeShapes Go.WideShapes Go.ChangeAt Go.RowKit Go.Joins Go.Shelf Go.Maps
open Go.Lib (hid)
theorem qbl (big x0:Bool)(v:Nat→Nat){k:Nat}(hk:k+1≤9)(i:Nat):
    qp (QV big x0 v (k+1)) i=if ¬(k+1=7∧x0=true)∧atB big (k+1)≤i∧i<atB big (k+1)+szB big (k+1) then byt (v (k+1)) (i - atB big (k+1)) else qp (QV big x0 v k) i:=by
  have hs:=Zj big false (k+1) (by omega) (by omega);have e:szE big false (k+1)=szB big (k+1):=by simp[szE]
  rw[e]at hs;have hm:32≤mB big:=by cases big<;>decide
  rw[QV];by_cases h:k+1=7∧x0=true
  · rw[if_pos h,if_neg (fun h2=>h2.1 h)]
  · rw[if_neg h,j7 (by rw[qI,yI big x0 v k (by omega)];omega),qI]
    by_cases h2:atB big (k+1)≤i∧i<atB big (k+1)+szB big (k+1)
    · rw[if_pos h2,if_pos ⟨h,h2⟩]
      simp[qp,Qg,Lg,show i - atB big (k+1)<szB big (k+1) by omega]
    · rw[if_neg h2,if_neg (fun h3=>h2 h3.2)]
theorem qdu (big x0:Bool)(v:Nat→Nat)(i:Nat):qp (QV big x0 v 0) i=0:=by
  unfold QV qp;simp only[Lg,List.getElem?_replicate];split<;>rfl
theorem zU {big:Bool}{v:Nat→Nat}{z1 z2:List Int}(h1:z1.length≤sB big)(h2:z2.length≤sB big){i:Nat}(hi:i<2*sB big):qp (Zv big v z1 z2) i=qp (QV big (v 7==0) v 9) i:=by
 have e:=yI big (v 7==0) v 9 (by omega);have hm:4*sB big=mB big:=by cases big<;>decide
 unfold Zv;rw[j7 (by rw[QM (by omega)];omega),if_neg (by omega),j7 (by omega),if_neg (by omega)]
theorem qu {big x0:Bool}{v:Nat→Nat}(k:Nat){i:Nat}(hk:k+1≤9)(h: ¬(atB big (k+1)≤i∧i<atB big (k+1)+szB big (k+1))):qp (QV big x0 v (k+1)) i=qp (QV big x0 v k) i:=by
 rw[qbl big x0 v hk i,if_neg (fun h2=>h h2.2)]
theorem zr {big x0:Bool}{v:Nat→Nat}(k:Nat){i:Nat}(hk:k+1≤9)(h7:k+1≠7)(h:atB big (k+1)=i):qp (QV big x0 v (k+1)) i=byt (v (k+1)) 0:=by
 have hs:1≤szB big (k+1):=by
  have:=Zj big false (k+1) (by omega) hk
  simpa [szE] using this.1
 rw[qbl big x0 v hk i,if_pos ⟨fun h2=>h7 h2.1,by omega,by omega⟩,←h,Nat.sub_self]
theorem YE {x:Nat}(h:x≤255):byt x 0=(x:Int):=by
 have:=YP x 0
 simp at this
 omega
theorem qeT {big:Bool}{v:Nat→Nat}{z1 z2:List Int}(hP:ParOk big v)(h1:z1.length≤sB big)(h2:z2.length≤sB big):okD big false (Zv big v z1 z2)∧qp (Zv big v z1 z2) 1=(v 2:Nat):=by
 have hs:8≤sB big:=by cases big<;>decide
 have hm:mB big≤64:=by cases big<;>decide
 obtain⟨p1,p2,p3,p4, -,p6,p7⟩:=hP.p;have g0:qp (Zv big v z1 z2) 0=(v 1:Nat):=by
  rw[zU h1 h2 (by omega),qu 8 (by omega) (by cases big<;>decide),qu 7 (by omega) (by cases big<;>decide),qu 6 (by omega) (by cases big<;>decide),qu 5 (by omega) (by cases big<;>decide),qu 4 (by omega) (by cases big<;>decide),
   qu 3 (by omega) (by cases big<;>decide),qu 2 (by omega) (by cases big<;>decide),qu 1 (by omega) (by cases big<;>decide),zr 0 (by omega) (by omega) (by cases big<;>rfl)]
  exact YE (x:=v 1) (by omega)
 have g1:qp (Zv big v z1 z2) 1=(v 2:Nat):=by
  rw[zU h1 h2 (by omega),qu 8 (by omega) (by cases big<;>decide),qu 7 (by omega) (by cases big<;>decide),qu 6 (by omega) (by cases big<;>decide),qu 5 (by omega) (by cases big<;>decide),qu 4 (by omega) (by cases big<;>decide),
   qu 3 (by omega) (by cases big<;>decide),qu 2 (by omega) (by cases big<;>decide),zr 1 (by omega) (by omega) (by cases big<;>rfl)]
  exact YE (x:=v 2) (by omega)
 have g3:qp (Zv big v z1 z2) 3=(v 4:Nat):=by
  rw[zU h1 h2 (by omega),qu 8 (by omega) (by cases big<;>decide),qu 7 (by omega) (by cases big<;>decide),qu 6 (by omega) (by cases big<;>decide),qu 5 (by omega) (by cases big<;>decide),qu 4 (by omega) (by cases big<;>decide),
   zr 3 (by omega) (by omega) (by cases big<;>rfl)]
  exact YE (x:=v 4) (by omega)
 have h9:atB big 9<2*sB big:=by cases big<;>decide
 have g9:qp (Zv big v z1 z2) (atB big 9)=(v 9:Nat):=by
  rw[zU h1 h2 h9,zr 8 (by omega) (by omega) rfl];exact YE (x:=v 9) (by omega)
 refine⟨⟨jA h1 h2,fun hb i i1 i2=>?_,fun h=>(by cases h),?_⟩,g1⟩
 ·subst hb;have hsi:i<2*sB true:=i2;have ha: ∀k,k<9→ ¬(atB true (k+1)≤i∧i<atB true (k+1)+szB true (k+1)):=fun k hk h=>by
   have:atB true (k+1)+szB true (k+1)≤18:=by
    rcases(show k=0∨k=1∨k=2∨k=3∨k=4∨k=5∨k=6∨k=7∨k=8 by omega)with rfl|rfl|rfl|rfl|rfl|rfl|rfl|rfl|rfl<;>decide
   omega
  rw[zU h1 h2 hsi,qu 8 (by omega) (ha 8 (by omega)),qu 7 (by omega) (ha 7 (by omega)),qu 6 (by omega) (ha 6 (by omega)),qu 5 (by omega) (ha 5 (by omega)),qu 4 (by omega) (ha 4 (by omega)),qu 3 (by omega) (ha 3 (by omega)),
   qu 2 (by omega) (ha 2 (by omega)),qu 1 (by omega) (ha 1 (by omega)),qu 0 (by omega) (ha 0 (by omega)),qdu]
 ·rw[g0,g1,g3,g9];exact⟨p1,p2,fun _=>p4.1,p7⟩
end Go.Proofs.YtdndeffmlhaipaaGreatDoor
namespace Go.Proofs.YtdndeffmlhaipaaGreatDoor
open Go.ChangeShapes Go.WideShapes Go.ChangeAt Go.RowKit Go.Joins Go.Shelf Go.Maps
open Go.Lib (hid)
attribute [local go_sem] Oper.semAt_some
theorem zc {b zs:List Int}{p:Nat}(hb: ∀z∈b,0≤z∧z≤255)(hz: ∀z∈zs,0≤z∧z≤255): ∀z∈QN b p zs,0≤z∧z≤255:=by
 intro z h;unfold QN at h;rcases List.mem_append.1 h with h|h
 ·rcases List.mem_append.1 h with h|h
  ·exact hb z (List.mem_of_mem_take h)
  ·exact hz z h
 ·exact hb z (List.mem_of_mem_drop h)
theorem zt (big x0:Bool)(v:Nat→Nat): ∀k,∀z∈QV big x0 v k,0≤z∧z≤255
 | 0,z,h=>by rw[List.eq_of_mem_replicate h];omega
 | k+1,z,h=>by
  rw[QV]at h;split at h
  ·exact zt big x0 v k z h
  ·exact zc (zt big x0 v k) (Zb _ _) z h
theorem qbB {big:Bool}{v:Nat→Nat}{z1 z2:List Int}(h1: ∀z∈z1,0≤z∧z≤255)(h2: ∀z∈z2,0≤z∧z≤255): ∀z∈Zv big v z1 z2,0≤z∧z≤255:=
 zc (zc (zt _ _ _ _) h1) h2
structure TreeOk (t:TreeV)(kz z1 z2:List Int)(w:World):Prop where
 v:t.validE=0
 l:0≤t.l∧t.l≤4294967295
 k:Hold w (.slice t.ka t.kl t.kc) kz
 s:Hold w (.slice t.sa t.sl t.sc) z1
 p:Hold w (.slice t.pa t.pl t.pc) z2
theorem TreeOk.below {t:TreeV}{kz z1 z2:List Int}{w w':World}(h:TreeOk t kz z1 z2 w)(hb:Below w.heap.size w w'):TreeOk t kz z1 z2 w':=⟨h.v,h.l,h.k.below hb,h.s.below hb,h.p.below hb⟩
theorem Qf {w:World}{a:Option Addr}{n c:Nat}{zs:List Int}(h:Hold w (.slice a n c) zs):zs.length=n:=by
 obtain⟨a',c',e, -, -⟩:=h.slice;simp only[Value.slice.injEq]at e;exact e.2.1.symm
def TreeV.node (t:TreeV)(kz z1 z2:List Int)(row i:Nat)(la rt:Bool)(d:List Int):List Int:=zw t.big (t.blk z1 z2 row i) (zm row kz) la (t.outN rt) d
theorem Yq (t:TreeV)(kz z1 z2:List Int)(row i:Nat)(la rt:Bool)(d:List Int): ∀a∈t.node kz z1 z2 row i la rt d,0≤a∧a≤255:=fun a ha=>zh _ _ _ _ a (List.mem_of_mem_take ha)
theorem ZI (big:Bool)(bs kz ds:List Int)(la:Bool)(o:Int)(bv kv dv:Value)(w:World)(hB:Hold w bv bs)(hK:Hold w kv kz)(hD:Hold w dv ds)(hdl:(ds.length:Int)≤140737488355200)(hok:okD big false bs)(hkb0:Yu bs kz=false)(ho:1≤o∧o≤(mB big:Nat)):
  Calls Tryz.prog 16 #[.agg (qx (kB big) bv kv la o dv)] w fun e w'=>qcC big bs kz la o ds w e w':=by
 cases big
 ·exact qct bs kz ds la o bv kv dv w hB hK hD hdl hok hkb0 ho
 ·exact qdC bs kz ds la o bv kv dv w hB hK hD hdl hok hkb0 ho
theorem TreeOk.okD {t:TreeV}{kz z1 z2:List Int}{w:World}(h:TreeOk t kz z1 z2 w){row at_:Nat}(hr:row≤255)(ha:at_<281474976710656):
  Go.Proofs.YtdndeffmlhaipaaGreatDoor.okD t.big false (t.blk z1 z2 row at_)∧Yu (t.blk z1 z2 row at_) (zm row kz)=false∧(∀z∈t.blk z1 z2 row at_,0≤z∧z≤255)∧ ∀rt:Bool,1≤t.outN rt∧t.outN rt≤(mB t.big:Nat):=by
 have hvf:=qd h.v;have hmb:=QT h.v;have e1:=Qf h.s;have e2:=Qf h.p;have e3:=Qf h.k;obtain⟨h1,h2⟩:=qeT (z1:=z1) (z2:=z2) (jB h.v h.l hr ha) (by omega) (by omega);refine⟨h1,?_,qbB h.s.1 h.p.1,fun rt=>?_⟩
 ·have h3:qp (t.blk z1 z2 row at_) 1=(t.kl:Int):=h2;unfold Yu zm;rw[h3];refine decide_eq_false ?_;split
  ·omega
  ·simp
 ·obtain⟨-,d1,d2,d3,d4, -⟩:=hvf
  cases rt
  ·show 1≤t.i∧t.i≤_;omega
  ·show 1≤t.d∧t.d≤_;omega
theorem qaF {t:TreeV}{kz z1 z2:List Int}{w:World}(h:TreeOk t kz z1 z2 w){row at_:Nat}(hr:row≤255)(ha:at_<281474976710656)(la rt:Bool)(ds:List Int)(dv bv kv:Value)(W:World)(b:Nat)
  (ho:W.ownsRow b 5 1 bv (mB t.big) ((t.blk z1 z2 row at_).map qv)) (hk:W.ownsRow b 5 1 kv (zm row kz).length ((zm row kz).map qv)) (hd:Hold W dv ds) (hl:ds.length≤1073741824):
  Calls Tryz.prog 16 #[.agg (qx t.k bv kv la (t.outN rt) dv)] W fun e w'=> ∃u,e= .returned (.tuple #[u,.int .i64 0])∧OwnB W.heap.size w' u (t.node kz z1 z2 row at_ la rt ds)∧Below W.heap.size W w':=by
 obtain⟨h1,h2,h3,h4⟩:=h.okD hr ha;have hkz: ∀z∈zm row kz,0≤z∧z≤255:=fun z hz=>by
  unfold zm at hz;split at hz
  ·exact h.k.1 z hz
  ·cases hz
 rw[←YS h.v];refine(ZI t.big _ _ ds la _ bv kv dv W (Qa ho h3) (Qa hk hkz) hd (by omega) h1 h2 (h4 rt)).mono ?_;rintro e w' ⟨⟨u,rfl,hu⟩,hb⟩
 exact⟨u,rfl,⟨Yq t kz z1 z2 row at_ la rt ds,hu⟩,hb⟩
def TreeV.rowZ (t:TreeV)(kz z1 z2:List Int)(row:Nat)(rt:Bool)(L:List (List Int))(m:Nat):List (List Int):=(List.range m).map fun i=>t.node kz z1 z2 row i (decide (i+1=L.length)) rt (qJ L i)
theorem yN (t:TreeV)(kz z1 z2:List Int)(row:Nat)(rt:Bool)(L:List (List Int))(m:Nat):t.rowZ kz z1 z2 row rt L (m+1)=t.rowZ kz z1 z2 row rt L m++[t.node kz z1 z2 row m (decide (m+1=L.length)) rt (qJ L m)]:=by simp[TreeV.rowZ,List.range_succ]
theorem TreeV.rowZ_length (t:TreeV)(kz z1 z2:List Int)(row:Nat)(rt:Bool)(L:List (List Int))(m:Nat):(t.rowZ kz z1 z2 row rt L m).length=m:=by simp[TreeV.rowZ]
structure CallS where
 k:Int
 bs:List Int
 kz:List Int
 la:Bool
 o:Int
 ds:List Int
def CallS.zero:CallS:=⟨0,[],[],false,0,[]⟩
def KeepH (w0:World)(B:Nat)(w:World)(v:Value)(z:List Int):Prop:=OwnB B w v z∨Hold w0 v z∧Below w0.heap.size w0 w
theorem KeepH.hold {w0 w:World}{B:Nat}{v:Value}{z:List Int}(h:KeepH w0 B w v z):Hold w v z:=by
 rcases h with h|⟨h,hb⟩
 ·exact h.hold
 ·exact h.below hb
theorem KeepH.kb {w0 w w':World}{B b:Nat}{v:Value}{z:List Int}(h:KeepH w0 B w v z)(hb:w0.heap.size≤b)(k:KB b w w'):KeepH w0 B w' v z:=by
 rcases h with h|⟨h,h2⟩
 ·exact .inl (h.kb k)
 ·exact .inr ⟨h,h2.trans (k.below.mono hb)⟩
def CallAt (w0:World)(B:Nat)(w:World)(s:CallS)(c:List Value):Prop:=
 ∃a1 n1 c1 a2 n2 c2 a3 n3 c3,c=[.int .i64 s.k,.slice a1 n1 c1,.slice a2 n2 c2,.bool s.la,.int .i64 s.o,.slice a3 n3 c3]∧OwnB B w (.slice a1 n1 c1) s.bs∧KeepH w0 B w (.slice a2 n2 c2) s.kz∧KeepH w0 B w (.slice a3 n3 c3) s.ds
theorem CallAt.kb {w0 w w':World}{B b:Nat}{s:CallS}{c:List Value}(h:CallAt w0 B w s c)(hb:w0.heap.size≤b)(k:KB b w w'):CallAt w0 B w' s c:=by
 obtain⟨a1,n1,c1,a2,n2,c2,a3,n3,c3,e,h1,h2,h3⟩:=h;exact⟨a1,n1,c1,a2,n2,c2,a3,n3,c3,e,h1.kb k,h2.kb hb k,h3.kb hb k⟩
def CallsO (w0:World)(B:Nat)(w:World)(v:Value)(S:List CallS):Prop:=
 ∃cs:List (List Value),cs.length=S.length∧w.ownsRow B 40 6 v S.length cs.flatten∧ ∀i,i<S.length→CallAt w0 B w (S.getD i .zero) (cs.getD i [])
theorem CallsO.nil (w0:World)(B:Nat)(w:World):CallsO w0 B w (.slice none 0 0) []:=⟨[],rfl,Wo _ _ _ _,fun i hi=>by simp at hi⟩
theorem CallsO.kb {w0 w w':World}{B b:Nat}{v:Value}{S:List CallS}(h:CallsO w0 B w v S)(hb:w0.heap.size≤b)(k:KB b w w')(hs: ∀g,v.ownBlock=some g→w'.heap[g]? =w.heap[g]?):CallsO w0 B w' v S:=by
 obtain⟨cs,hl,ho,hx⟩:=h;refine⟨cs,hl,⟨ho.1,?_⟩,fun i hi=>(hx i hi).kb hb k⟩;rcases ho.2 with h2|⟨g,cap,cur,rfl,h1,h2,h3⟩
 ·exact .inl h2
 ·exact .inr ⟨g,cap,cur,rfl,h1,by rw[hs g rfl];exact h2,h3⟩
theorem yS {w:World}{B T n s:Nat}{v:Value}{xs:List Value}(ho:w.ownsRow B T s v n xs): ∀g,v.ownBlock=some g→g<w.heap.size:=by
 intro g hg;rcases ho.2 with⟨rfl, -⟩|⟨g',cap,cur,rfl, -,h2, -⟩
 ·cases hg
 ·simp only[Value.ownBlock,Option.some.injEq]at hg;subst hg;exact(Ai h2).1
theorem CallsO.below {w0 w w':World}{B:Nat}{v:Value}{S:List CallS}(h:CallsO w0 B w v S)(hw:w0.heap.size≤w.heap.size)(k:Below w.heap.size w w'):CallsO w0 B w' v S:=by
 refine h.kb hw (KB.of_below k Nl) fun g hg=>?_
 obtain⟨cs, -,ho, -⟩:=h;exact k.block g (yS ho g hg)
theorem qah {α:Type}(L:List α)(x d:α)(i:Nat):(L++[x]).getD i d=if i<L.length then L.getD i d else if i=L.length then x else d:=by
 simp only[Lg];by_cases h:i<L.length
 ·rw[List.getElem?_append_left h,if_pos h]
 ·rw[if_neg h,List.getElem?_append_right (by omega)];by_cases h2:i=L.length
  ·subst h2;simp
  ·rw[if_neg h2,List.getElem?_eq_none (by simp;omega)];rfl
theorem CallsO.snoc {w0 w w':World}{B:Nat}{v':Value}{S:List CallS}{s:CallS}{cs:List (List Value)}{c:List Value}(hx: ∀i,i<S.length→CallAt w0 B w (S.getD i .zero) (cs.getD i []))(hl:cs.length=S.length)(hz:CallAt w0 B w s c)
  (ho:w'.ownsRow B 40 6 v' (S.length+1) (cs.flatten++c)) (hb:w0.heap.size≤B) (hk:KB B w w'):CallsO w0 B w' v' (S++[s]):=by
 refine⟨cs++[c],by simp[hl],by simpa using ho,fun i hi=>?_⟩;simp only[List.length_append,List.length_singleton]at hi;rw[qah,qah,hl];by_cases h:i<S.length
 ·rw[if_pos h,if_pos h];exact(hx i h).kb hb hk
 ·rw[if_neg h,if_neg h,if_pos (by omega),if_pos (by omega)];exact hz.kb hb hk
theorem Jd {W W':World}{B T s n:Nat}{v:Value}{xs:List Value}(h:W.ownsRow B T s v n xs)(hs: ∀g,v.ownBlock=some g→W'.heap[g]? =W.heap[g]?):W'.ownsRow B T s v n xs:=by
 refine⟨h.1,?_⟩;rcases h.2 with h2|⟨g,cap,cur,rfl,h1,h2,h3⟩
 ·exact .inl h2
 ·exact .inr ⟨g,cap,cur,rfl,h1,by rw[hs g rfl];exact h2,h3⟩
theorem Zp {W:World}{B T s n:Nat}{v:Value}{xs:List Value}(h:W.ownsRow B T s v n xs): ∃a n c,v= .slice a n c:=by
 rcases h.2 with⟨rfl, -⟩|⟨g,cap,cur,rfl, -⟩
 ·exact⟨_,_,_,rfl⟩
 ·exact⟨_,_,_,rfl⟩
theorem qac:(Tryz.prog.info? 40).map (fun i=>(i.zero,i.size,i.bytes))=some (some (.agg #[.int .i64 0,.slice none 0 0,.slice none 0 0,.bool false,.int .i64 0,.slice none 0 0]),6,96):=by kernel_rfl
theorem qci:(Tryz.prog.info? 47).map (fun i=>(i.zero,i.size,i.bytes))=some (some (.slice none 0 0),1,24):=by kernel_rfl
theorem JL {ops:Array Oper}{rest:List Oper}{o:Oper}{act:Act}{w:World}{Q:Exit→Act→World→Prop}(hg:o.guard=none)(x:Operand)(ho:o.op= .buildSlice 47 1 #[(0,x)])(x0 x1 x2 x3 x4 x5:Value)(hx:act.eval x= .agg #[x0,x1,x2,x3,x4,x5])
  (h:wpList Tryz.prog ops Q rest (act.put o.dst (.slice (some ⟨w.heap.size,0,none⟩) 1 1)) (w.alloc (.cells #[x0,x1,x2,x3,x4,x5] 40))):wpList Tryz.prog ops Q (o::rest) act w:=by
 obtain⟨ib,hib,hzb,hsb, -⟩:=info_parts qac;exact wpList_buildSlice hg 47 40 1 _ ho #[x0,x1,x2,x3,x4,x5] ib _ Tryz.underlying47 hib hzb (by rw[hsb];decide) (by rw[hsb];decide) (by rw[hsb,show Array.range (1*6)= #[0,1,2,3,4,5] by decide];simp[hx,Instr.fill,Value.cells]) h
def TreeV.callS (t:TreeV)(kz z1 z2:List Int)(row i:Nat)(la rt:Bool)(d:List Int):CallS:=⟨t.k,t.blk z1 z2 row i,zm row kz,la,t.outN rt,d⟩
def TreeV.rowC (t:TreeV)(kz z1 z2:List Int)(row:Nat)(rt:Bool)(L:List (List Int))(m:Nat):List CallS:=(List.range m).map fun i=>t.callS kz z1 z2 row i (decide (i+1=L.length)) rt (qJ L i)
theorem jO (t:TreeV)(kz z1 z2:List Int)(row:Nat)(rt:Bool)(L:List (List Int))(m:Nat):t.rowC kz z1 z2 row rt L (m+1)=t.rowC kz z1 z2 row rt L m++[t.callS kz z1 z2 row m (decide (m+1=L.length)) rt (qJ L m)]:=by simp[TreeV.rowC,List.range_succ]
theorem qq (t:TreeV)(kz z1 z2:List Int)(row:Nat)(rt:Bool)(L:List (List Int))(m:Nat):(t.rowC kz z1 z2 row rt L m).length=m:=by simp[TreeV.rowC]
theorem Qp (w:World)(m:Nat):Below w.heap.size w (w.drewN m):=by
 induction m with
 | zero=>exact Below.refl _ _
 | succ m ih=>exact ih.drew
end Go.Proofs.YtdndeffmlhaipaaGreatDoor
