/- What a node on a leaf's way gives, by the program: path.give. No condition. -/
import Derived.Test.YtahenngmaoellaaGreatC33
import Derived.Test.YtahenngmaoellaaGreatC40
import Derived.Deep.DeepCutAuto
import Derived.Test.YtahenngmaoellaaGreatC37
set_option linter.all false
set_option maxRecDepth 100000
set_option maxHeartbeats 8000000
namespace Go.Proofs.YtahenngmaoellaaGreat
open Go.ChangeShapes Go.WideShapes Go.ChangeAt Go.RowKit Go.Joins Go.Shelf Go.Maps
open Go.Lib (hid)
attribute [local go_sem] Oper.semAt_some
theorem qcZ {t:TreeV}(h:t.validE=0)(hl:0≤t.l∧t.l≤4294967295){row at_:Nat}(hr:row≤255)(ha:at_<18446744073709551616)(hs:t.k=2→at_<281474976710656):ParOk t.big (t.vN row at_):=by
 obtain⟨h1,h2,h3,h4,h5,h6,h7,h8,h9,h10, -, -⟩:=qk h;obtain⟨hm, -⟩:=yg h;have hb:t.big=false→at_<281474976710656:=fun e=>hs (by
  have:t.k≠1:=of_decide_eq_false e
  omega)
 refine⟨⟨?_,?_,?_,?_,⟨?_,fun e=>?_⟩,?_,?_⟩,?_,?_,rfl⟩
 case refine_6=>have:=hb e;simp only[TreeV.vN,if_true,if_false,Nat.reduceEqDiff];omega
 all_goals simp only[TreeV.vN,if_true,if_false,Nat.reduceEqDiff]
 all_goals omega
theorem qaW {f p total l:Nat}{L:List Nat}(h:RowsIs f p (lvs total l) L): ∀k,k<L.length→nth L k≤lvs total l
 | 0,_=>Nat.le_of_eq h.first
 | k+1,hk=>by
  have ih:=qaW h k (by omega);have h0:1≤lvs total l:=by unfold lvs;omega
  by_cases h1:nth L (k+1)=1
  ·omega
  ·obtain⟨e,hf⟩:=h.next_or hk h1;rw[e];exact Nat.le_trans (yS (by omega)) ih
theorem qcY {t:TreeV}(hl:0≤t.l∧t.l≤4294967295){total row at_:Nat}(ht:(total:Int)≤18446744073709551615)(he:t.err total=0)(hk:row<(t.rowsOf total).length)(ha:at_<nth (t.rowsOf total) row):ParOk t.big (t.vN row at_)∧row≤255:=by
 obtain⟨hl1,hl2,hln,h0⟩:=Qo hl he;have hR:=qA he;have hvf:=qk h0;have hlen:=hR.most;have hpn:(t.pn:Int)≤255:=by have:=hvf.2.2.2.2.2.2.1;have:=hvf.2.2.2.2.2.2.2.1;unfold TreeV.pn;omega
 have h3:=YK hl1 ht hR row hk;have hr:row≤255:=by omega
 refine⟨qcZ h0 hl hr (by omega) (fun e=>?_),hr⟩;have h4:=qaW hR row hk;have h5:qH total t.ln≤281474976710656:=by
  by_cases hc:281474976710656<qH total t.ln
  ·unfold TreeV.err at he;rw[if_neg (by simp[h0]),if_pos ⟨e,hc⟩]at he;omega
  ·omega
 unfold lvs at h4;omega
theorem qdP (big:Bool)(v:Nat→Nat)(z1 z2:List Int)(sa pe:Value)(b:Nat)(w:World)(hP:ParOk big v)(h1:SideIs b w z1 sa)(h2:SideIs b w z2 pe)(hz1: ∀a∈z1,0≤a∧a≤255)(hz2: ∀a∈z2,0≤a∧a≤255)(hl1:z1.length≤sB big)(hl2:z2.length≤sB big):
  Calls Tryz.prog 109 #[.int .i64 (kB big),parN v sa pe] w fun e w'=>(∃r,e= .returned (.tuple #[r,.int .i64 0])∧w'.ownsRow w.heap.size 5 1 r (mB big) ((QK big v z1 z2).map qo))∧Below w.heap.size w w':=by
 obtain⟨y1,k1,m1,e1⟩:=Jb h1 hz1;obtain⟨y2,k2,m2,e2⟩:=Jb h2 hz2;rw[←qce hl1 hl2 e1 e2];exact qcc big v y1 y2 sa pe w hP k1 k2 (Nat.le_trans m1 hl1) (Nat.le_trans m2 hl2)
theorem TreeOk.okD2 {t:TreeV}{kz z1 z2:List Int}{w:World}(h:TreeOk t kz z1 z2 w){row at_:Nat}(hP:ParOk t.big (t.vN row at_)):
  Go.Proofs.YtahenngmaoellaaGreat.okD t.big false (t.blk z1 z2 row at_)∧Yh (t.blk z1 z2 row at_) (YG row kz)=false∧(∀z∈t.blk z1 z2 row at_,0≤z∧z≤255)∧ ∀rt:Bool,1≤t.outN rt∧t.outN rt≤(mB t.big:Nat):=by
 have hvf:=qk h.v;have hmb:=yg h.v;have e1:=Ya h.s;have e2:=Ya h.p;have e3:=Ya h.k;obtain⟨h1,h2⟩:=qfq (z1:=z1) (z2:=z2) hP (by omega) (by omega);refine⟨h1,?_,zL h.s.1 h.p.1,fun rt=>?_⟩
 ·have h3:qn (t.blk z1 z2 row at_) 1=(t.kl:Int):=h2;unfold Yh YG;rw[h3];refine decide_eq_false ?_;split
  ·omega
  ·simp
 ·obtain⟨-,d1,d2,d3,d4, -⟩:=hvf
  cases rt
  ·show 1≤t.i∧t.i≤_;omega
  ·show 1≤t.d∧t.d≤_;omega
theorem qg9 {t:TreeV}{kz z1 z2:List Int}{w:World}(h:TreeOk t kz z1 z2 w){row at_:Nat}(hP:ParOk t.big (t.vN row at_))(la rt:Bool)(ds:List Int)(dv bv kv:Value)(W:World)(b:Nat)
  (ho:W.ownsRow b 5 1 bv (mB t.big) ((t.blk z1 z2 row at_).map qo)) (hk:Hold W kv (YG row kz)) (hd:Hold W dv ds) (hl:ds.length≤1073741824):
  Calls Tryz.prog 64 #[.agg (yF t.k bv kv la (t.outN rt) dv)] W fun e w'=> ∃u,e= .returned (.tuple #[u,.int .i64 0])∧OwnB W.heap.size w' u (t.node kz z1 z2 row at_ la rt ds)∧Below W.heap.size W w':=by
 obtain⟨h1,h2,h3,h4⟩:=h.okD2 hP;rw[←yT h.v];refine(Jj t.big _ _ ds la _ bv kv dv W (Qc ho h3) hk hd (by omega) h1 h2 (h4 rt)).mono ?_;rintro e w' ⟨⟨u,rfl,hu⟩,hb⟩
 exact⟨u,rfl,⟨yG t kz z1 z2 row at_ la rt ds,hu⟩,hb⟩
theorem qid (t:TreeV)(kz z1 z2 ds:List Int)(total:Nat)(ht:(total:Int)≤18446744073709551615)(row at_ q2 q3:Nat)(q4 q5:Bool)(da:Option Addr)(dc:Nat)(w:World)(h:TreeOk t kz z1 z2 w)(hP:ParOk t.big (t.vN row at_))(hr:row≤255)
  (hsp:t.spotE total (row:Nat) at_=0) (hsr:t.spotR total (row:Nat) at_=⟨row,at_,q2,q3,q4,q5⟩) (hd:Hold w (.slice da ds.length dc) ds) (hdl:ds.length≤1073741824):
  Calls Tryz.prog 95 #[t.val,.int .u64 total,.agg #[.int .i64 (row:Nat),.int .u64 (at_:Nat),.int .u64 (q2:Nat),.int .u64 (q3:Nat),.bool q4,.bool q5],.slice da ds.length dc] w fun e w'=> ∃u,e= .returned u∧OwnB w.heap.size w' u (t.node kz z1 z2 row at_ q4 q5 ds)∧Below w.heap.size w w':=by
 obtain⟨b0,hb0⟩:=Ex w.heap.size;have e1:=Ya h.s;have e2:=Ya h.p;have e3:=Ya h.k;have hvf:=qk h.v;have hmb:=yg h.v;have hs16:sB t.big≤16:=by cases t.big<;>decide
 have hspo:=fun(W:World)=>YT t h.l total ht (row:Nat) at_ W
 rw[hsr,hsp]at hspo;unfold SpotV.val at hspo;simp only at hspo
 have HSP:=hid hspo;have HPA:=hid (fun(W:World) (hb:Below b0 w W)=>qf0 t total (row:Nat) at_ HSP W (hid (h.s.below (hb0▸hb)).holds8) (hid (h.p.below (hb0▸hb)).holds8) (hid h.s.1) (hid h.p.1) (hid (by omega)) (hid (by omega)));have hen:=fun(W:World) (b:Nat) (s p:Value) (hs1:SideIs b W z1 s) (hs2:SideIs b W z2 p)=>qdP t.big (t.vN row at_) z1 z2 s p b W hP hs1 hs2 h.s.1 h.p.1 (by omega) (by omega)
 simp only[TreeV.parN h.v h.l,yT h.v]at hen;have HEN:=hid hen;have HNO:=hid (fun(W:World) (hb:Below b0 w W) (bv kv:Value) (B:Nat) (ho:W.ownsRow B 5 1 bv (mB t.big) ((QK t.big (t.vN row at_) z1 z2).map qo)) (hk:Hold W kv (YG row kz))=>qg9 (h.below (hb0▸hb)) hP q4 q5 ds (.slice da ds.length dc) bv kv W B ho hk (hd.below (hb0▸hb)) hdl);have HKZ:=hid h.k;clear hvf hmb hspo hen hsp hsr hP hd hdl hs16 e1 e2 e3 h;unfold TreeV.val JO at*;go_enter Tryz.func95,Tryz.ntmps95
 go_upto_region 1 with(fail)
 refine qj ?_;intro wA hwA;have hrT:wA.heap[b0]? =some (.cells #[.int .i64 t.k,.int .i64 t.d,.int .i64 t.f,.int .i64 t.p,.int .u32 t.l,.int .i64 t.i,.slice t.ka t.kl t.kc,.slice t.sa t.sl t.sc,.slice t.pa t.pl t.pc] 26 (0,0)):=by rw[hwA];exact(Bh _ _ _ (by simp;omega)).trans (qc _ _ hb0.symm)
 have hrS:wA.heap[b0+1]? =some (.cells #[.int .i64 (row:Nat),.int .u64 (at_:Nat),.int .u64 (q2:Nat),.int .u64 (q3:Nat),.bool q4,.bool q5] 96 (0,0)):=by rw[hwA];exact qc _ _ (by simp;omega)
 have hbA:Below b0 w wA:=by rw[hwA,←hb0];exact(Br.alloc Nl _).alloc (by simp) _
 have hsA:b0+1<wA.heap.size:=(Ai hrS).1;clear hwA;have k0:wA.cell? ⟨b0+1,0,none⟩=some (.int .i64 (row:Nat)):=qa hrS 0;have k1:wA.cell? ⟨b0+1,1,none⟩=some (.int .u64 (at_:Nat)):=qa hrS 1;go_wp2_with ((with_reducible show wpList _ _ _ (Oper.mk _ (Op.load 26 _) _ _ _ _::_) _ _);refine wpList_load_row rfl 26 _ rfl b0 rfl _ _ _ _ hrT Tryz.underlying26 rfl (by kernel_rfl) ?_)
 refine(HPA.out wA hbA).mono ?_;rintro e w2 ⟨sv,pv,rfl,hsv,hpv,hb2⟩;have HRT:=hid (qd hrT hb2);have HRS:=hid (qd hrS hb2);have HB2:=hid (hbA.trans (hb2.mono (by omega)));have hs2:=hb2.size;have HSV:=hid hsv;have HPV:=hid hpv;obtain⟨sv1,sv2,sv3,rfl⟩: ∃a n c,sv= .slice a n c:=by
  rcases hsv with⟨rfl, -⟩|⟨-,ho⟩
  ·exact⟨_,_,_,rfl⟩
  ·exact qq ho
 obtain⟨pv1,pv2,pv3,rfl⟩: ∃a n c,pv= .slice a n c:=by
  rcases hpv with⟨rfl, -⟩|⟨-,ho⟩
  ·exact⟨_,_,_,rfl⟩
  ·exact qq ho
 clear hsv hpv hb2 hrT hrS hbA k0 k1 HPA HSP;go_upto_region 2 with((with_reducible show wpList _ _ _ (Oper.mk none (Op.store 179 _ _) _ _ _ _::_) _ _);refine wpList_store_row rfl 179 _ _ rfl w2.heap.size #[.int .i64 t.d,.int .i64 (t.kl:Nat),.int .i64 t.f,.int .i64 t.p,.int .u32 t.l,.int .u64 (at_:Nat),.int .u32 0,.int .i64 (row:Nat),.int .i64 t.i,.slice sv1 sv2 sv3,.slice pv1 pv2 pv3] rfl rfl 179 _ (Wn _ _) (by kernel_rfl) rfl (by simp[Value.oneCell']) ?_)
 refine qj ?_;intro V hV;obtain⟨b3,hb3⟩:=Ex w2.heap.size;have hrP:V.heap[b3]? =some (.cells #[.int .i64 t.d,.int .i64 (t.kl:Nat),.int .i64 t.f,.int .i64 t.p,.int .u32 t.l,.int .u64 (at_:Nat),.int .u32 0,.int .i64 (row:Nat),.int .i64 t.i,.slice sv1 sv2 sv3,.slice pv1 pv2 pv3] 179 (0,0)):=by rw[hV,←hb3];exact setRow_heap _ _ _ _ _ _ (Wn _ _)
 have hbV:Below b3 w2 V:=by rw[hV,←hb3];exact below_setRow (Br.alloc Nl _) Nl _
 have HBV:=hid (show Below b0 w V from HB2.out.trans (hbV.mono (by omega)));have HRT3:=hid ((hbV.block b0 (by omega)).trans HRT.out);have HRS3:=hid ((hbV.block (b0+1) (by omega)).trans HRS.out);have HEV:=hid (HEN.out V wA.heap.size (.slice sv1 sv2 sv3) (.slice pv1 pv2 pv3) (Zf HSV.out (hb3▸hbV)) (Zf HPV.out (hb3▸hbV)));have hVs:b3<V.heap.size:=(Ai hrP).1;have hVs0:b0+1<V.heap.size:=by omega
 have hVs1:b0<V.heap.size:=by omega
 rw[hb3];have c0:V.cell? ⟨b0,0,none⟩=some (.int .i64 t.k):=qa HRT3.out 0;clear hV hbV HB2 HRT HRS hb3 HEN HSV HPV;go_wp2_with ((with_reducible show wpList _ _ _ (Oper.mk _ (Op.load 179 _) _ _ _ _::_) _ _);refine wpList_load_row rfl 179 _ rfl b3 rfl _ _ _ _ hrP Tryz.underlying179 rfl (by kernel_rfl) ?_)
 refine HEV.out.mono ?_;rintro e w4 ⟨⟨bv,rfl,hbo⟩,hb4⟩;obtain⟨a5,n5,k5,rfl⟩:=qq hbo;have hrT4:=qd HRT3.out hb4;have hrS4:=qd HRS3.out hb4;have HRT4:=hid hrT4;have HRS4:=hid hrS4;have hs4:=hb4.size;have HBO:=hid hbo;have HB4:=hid (show Below b0 w w4 from HBV.out.trans (hb4.mono (by omega)));have c0:w4.cell? ⟨b0,0,none⟩=some (.int .i64 t.k):=qa hrT4 0;have c5:w4.cell? ⟨b0,5,none⟩=some (.int .i64 t.i):=qa hrT4 5;have d4:w4.cell? ⟨b0+1,4,none⟩=some (.bool q4):=qa hrS4 4;have hb0w:b0+1<w4.heap.size∧b0<w4.heap.size:=by omega
 clear hb4 hbo hrT4 hrS4 hrP HEV HBV HRT3 HRS3 hVs;go_upto_region 4 with((with_reducible show wpList _ _ _ (Oper.mk none (Op.store 73 _ _) _ _ _ _::_) _ _);refine wpList_store_row rfl 73 _ _ rfl w4.heap.size #[.int .i64 t.k,.slice a5 n5 k5,.slice none 0 0,.bool q4,.int .i64 t.i,.slice da ds.length dc] rfl rfl 73 _ (Wn _ _) (by kernel_rfl) rfl (by simp[Value.oneCell']) ?_)
 refine qj ?_;intro U hU;obtain⟨b4,hb4⟩:=Ex w4.heap.size;have hrV:U.heap[b4]? =some (.cells #[.int .i64 t.k,.slice a5 n5 k5,.slice none 0 0,.bool q4,.int .i64 t.i,.slice da ds.length dc] 73 (0,0)):=by rw[hU,←hb4];exact setRow_heap _ _ _ _ _ _ (Wn _ _)
 have hbU:Below b4 w4 U:=by rw[hU,←hb4];exact below_setRow (Br.alloc Nl _) Nl _
 rw[hb4];have HG0:=hid (show U.heap[b4]? =some (.cells #[.int .i64 t.k,.slice a5 n5 k5,.slice none 0 0,.bool q4,.int .i64 t.i,.slice da ds.length dc] 73 (0,0))∧U.heap[b0]? =some (.cells #[.int .i64 t.k,.int .i64 t.d,.int .i64 t.f,.int .i64 t.p,.int .u32 t.l,.int .i64 t.i,.slice t.ka t.kl t.kc,.slice t.sa t.sl t.sc,.slice t.pa t.pl t.pc] 26 (0,0))∧U.heap[b0+1]? =some (.cells #[.int .i64 (row:Nat),.int .u64 (at_:Nat),.int .u64 (q2:Nat),.int .u64 (q3:Nat),.bool q4,.bool q5] 96 (0,0))∧Below b0 w U∧U.ownsRow b0 5 1 (.slice a5 n5 k5) (mB t.big) ((QK t.big (t.vN row at_) z1 z2).map qo) from⟨hrV,(hbU.block b0 (by omega)).trans HRT4.out,(hbU.block (b0+1) (by omega)).trans HRS4.out,HB4.out.trans (hbU.mono (by omega)),ownsRow_le (qg HBO.out (fun g _ g2=>hbU.block g (by omega))) (by omega)⟩);have hlt:b0+1<b4:=by omega
 clear hU hb4 hrV hbU HRT4 HRS4 HB4 HBO c0 c5 d4 hb0w hs4 hVs0 hVs1 hs2 hsA;have d5:U.cell? ⟨b0+1,5,none⟩=some (.bool q5):=qa HG0.out.2.2.1 5;have hsU:b4<U.heap.size∧b0<U.heap.size∧b0+1<U.heap.size:=by have:=(Ai HG0.out.1).1;omega
 obtain⟨hsU,hsU0,hsU1⟩:=hsU;have c1:U.cell? ⟨b0,1,none⟩=some (.int .i64 t.d):=qa HG0.out.2.1 1;have c4:U.cell? ⟨b4,4,none⟩=some (.int .i64 t.i):=qa HG0.out.1 4;have f4:=frozen_of_row U b4 4 _ _ HG0.out.1;go_upto_if 43 with(fail)
 go_cut [13] (fun u W=>u= .pointer (some ⟨b4,0,none⟩)∧W.heap[b4]? =some (.cells #[.int .i64 t.k,.slice a5 n5 k5,.slice none 0 0,.bool q4,.int .i64 (t.outN q5),.slice da ds.length dc] 73 (0,0))∧W.heap[b0]? =some (.cells #[.int .i64 t.k,.int .i64 t.d,.int .i64 t.f,.int .i64 t.p,.int .u32 t.l,.int .i64 t.i,.slice t.ka t.kl t.kc,.slice t.sa t.sl t.sc,.slice t.pa t.pl t.pc] 26 (0,0))∧W.heap[b0+1]? =some (.cells #[.int .i64 (row:Nat),.int .u64 (at_:Nat),.int .u64 (q2:Nat),.int .u64 (q3:Nat),.bool q4,.bool q5] 96 (0,0))∧Below b0 w W∧W.ownsRow b0 5 1 (.slice a5 n5 k5) (mB t.big) ((QK t.big (t.vN row at_) z1 z2).map qo))
 case first=>
  cases q5
  ·go_wp2_with fail
   go_meet
   case rel=>exact⟨rfl,HG0.out⟩
  ·go_wp2_with fail
   go_meet
   case rel=>
    obtain⟨r1,r2,r3,r4,r5⟩:=HG0.out;exact⟨rfl,heap_setCell_same U b4 4 _ _ (.int .i64 t.d) r1,(heap_setCell_other U ⟨b4,4,none⟩ b0 (.int .i64 t.d) (show b0≠b4 by omega)).trans r2,(heap_setCell_other U ⟨b4,4,none⟩ (b0+1) (.int .i64 t.d) (show b0+1≠b4 by omega)).trans r3,r4.setCell (show b0≤b4 by omega) _,Qe r5 r1 4 (.int .i64 t.d) (by decide)⟩
 case rest=>
  obtain⟨rfl,hg1⟩:=hcut;have HG1:=hid hg1;clear hg1 HG0 d5 hsU hsU0 hsU1 c1 c4 f4;clear U;have hsU:b4<wc.heap.size∧b0<wc.heap.size∧b0+1<wc.heap.size:=by have:=(Ai HG1.out.1).1;omega
  obtain⟨hsU,hsU0,hsU1⟩:=hsU;have d0:wc.cell? ⟨b0+1,0,none⟩=some (.int .i64 (row:Nat)):=qa HG1.out.2.2.1 0;have c6:wc.cell? ⟨b0,6,none⟩=some (.slice t.ka t.kl t.kc):=qa HG1.out.2.1 6;have c2:wc.cell? ⟨b4,2,none⟩=some (.slice none 0 0):=qa HG1.out.1 2;have f2:=frozen_of_row wc b4 2 _ _ HG1.out.1;obtain⟨U,rfl⟩: ∃U,U=wc:=⟨_,rfl⟩;go_upto_if 49 with(fail)
  go_cut [13] (fun u W=>u= .pointer (some ⟨b4,0,none⟩)∧ ∃a6 n6 c6,Hold W (.slice a6 n6 c6) (YG row kz)∧W.heap[b4]? =some (.cells #[.int .i64 t.k,.slice a5 n5 k5,.slice a6 n6 c6,.bool q4,.int .i64 (t.outN q5),.slice da ds.length dc] 73 (0,0))∧W.heap[b0]? =some (.cells #[.int .i64 t.k,.int .i64 t.d,.int .i64 t.f,.int .i64 t.p,.int .u32 t.l,.int .i64 t.i,.slice t.ka t.kl t.kc,.slice t.sa t.sl t.sc,.slice t.pa t.pl t.pc] 26 (0,0))∧W.heap[b0+1]? =some (.cells #[.int .i64 (row:Nat),.int .u64 (at_:Nat),.int .u64 (q2:Nat),.int .u64 (q3:Nat),.bool q4,.bool q5] 96 (0,0))∧Below b0 w W∧W.ownsRow b0 5 1 (.slice a5 n5 k5) (mB t.big) ((QK t.big (t.vN row at_) z1 z2).map qo))
  case first=>
   by_cases hrow:row=0
   ·have hq:(row:Int)=0:=by omega
    go_wp2_with fail
    go_meet
    case rel=>
     obtain⟨r1,r2,r3,r4,r5⟩:=HG1.out;have hb9:Below b0 w (U.setCell ⟨b4,2,none⟩ (.slice t.ka t.kl t.kc)):=r4.setCell (show b0≤b4 by omega) _;exact⟨rfl,_,_,_,(by unfold YG;rw[if_pos hrow];exact HKZ.out.below (hb0▸hb9)),heap_setCell_same U b4 2 _ _ _ r1,(heap_setCell_other U ⟨b4,2,none⟩ b0 _ (show b0≠b4 by omega)).trans r2,(heap_setCell_other U ⟨b4,2,none⟩ (b0+1) _ (show b0+1≠b4 by omega)).trans r3,hb9,Qe r5 r1 2 _ (by decide)⟩
   ·have hq: ¬((row:Int)=0):=by omega
    go_wp2_with fail
    go_meet
    case rel=>exact⟨rfl,none,0,0,(by unfold YG;rw[if_neg hrow];exact Hold.nil _),HG1.out⟩
  case rest=>
   obtain⟨rfl,a6,n6,c6',hk,r1,r2,r3,r4,r5⟩:=hcut;have HR1:=hid r1;have HCALL:=hid (HNO.out wc r4 (.slice a5 n5 k5) (.slice a6 n6 c6') b0 r5 hk);have HB9:=hid r4;have hs9:b4<wc.heap.size:=(Ai r1).1;clear hk r1 r2 r3 r4 r5 HG1 HNO d0 c6 c2 f2 hsU hsU0 hsU1;go_wp2_with ((with_reducible show wpList _ _ _ (Oper.mk _ (Op.load 73 _) _ _ _ _::_) _ _);refine wpList_load_row rfl 73 _ rfl b4 rfl _ _ _ _ HR1.out Tryz.underlying73 rfl (by kernel_rfl) ?_)
   refine HCALL.out.mono ?_;rintro e w9 ⟨u,rfl,hu,hb9⟩;have HU:=hid (hu.le (show b0≤wc.heap.size by omega));have HBF:=hid (HB9.out.trans (hb9.mono (show b0≤wc.heap.size by omega)));clear hu hb9;go_wp2_with fail
   go_ret
   exact⟨_,rfl,by rw[hb0];exact HU.out,by rw[hb0];exact HBF.out⟩
structure SpotOk (t:TreeV)(total:Nat)(S:SpotV):Prop where
 p:ParOk t.big (t.vN S.row S.at_)
 r:S.row≤255
 e:t.spotE total (S.row:Nat) S.at_=0
 s:t.spotR total (S.row:Nat) S.at_=S
def TreeV.giveZ (t:TreeV)(kz z1 z2:List Int)(S:SpotV)(ds:List Int):List Int:=t.node kz z1 z2 S.row S.at_ S.last S.root ds
theorem qdK (t:TreeV)(kz z1 z2 ds:List Int)(total:Nat)(ht:(total:Int)≤18446744073709551615)(S:SpotV)(da:Option Addr)(dc:Nat)(w:World)(h:TreeOk t kz z1 z2 w)(hS:SpotOk t total S)(hd:Hold w (.slice da ds.length dc) ds)(hdl:ds.length≤1073741824):
  Calls Tryz.prog 95 #[t.val,.int .u64 total,.agg #[.int .i64 (S.row:Nat),.int .u64 (S.at_:Nat),.int .u64 (S.frm:Nat),.int .u64 (S.to_:Nat),.bool S.last,.bool S.root],.slice da ds.length dc] w fun e w'=> ∃u,e= .returned u∧OwnB w.heap.size w' u (t.giveZ kz z1 z2 S ds)∧Below w.heap.size w w':=
 qid t kz z1 z2 ds total ht S.row S.at_ S.frm S.to_ S.last S.root da dc w h hS.p hS.r hS.e hS.s hd hdl
theorem qgZ (t:TreeV)(kz z1 z2 ds:List Int)(total:Nat)(ht:(total:Int)≤18446744073709551615)(S:SpotV)(bt bp bl:Nat)(leaf:Nat)(u:Value)(da:Option Addr)(dc:Nat)(w:World)(h:TreeOk t kz z1 z2 w)(hS:SpotOk t total S)(hd:Hold w (.slice da ds.length dc) ds)(hdl:ds.length≤1073741824)
  (hT:w.heap[bt]? =some (.cells #[.int .i64 t.k,.int .i64 t.d,.int .i64 t.f,.int .i64 t.p,.int .u32 t.l,.int .i64 t.i,.slice t.ka t.kl t.kc,.slice t.sa t.sl t.sc,.slice t.pa t.pl t.pc] 26 (0,0))) (hp:w.heap[bp]? =some (.cells #[.int .u64 total,.int .u64 leaf,u] 55 (0,0))) (hs:w.heap[bl]? =some (.cells #[.int .i64 (S.row:Nat),.int .u64 (S.at_:Nat),.int .u64 (S.frm:Nat),.int .u64 (S.to_:Nat),.bool S.last,.bool S.root] 96 (0,0))):
  Calls Tryz.prog 94 #[.slice da ds.length dc,.pointer (some ⟨bt,0,none⟩),.pointer (some ⟨bp,0,none⟩),.pointer (some ⟨bl,0,none⟩)] w fun e w'=> ∃u,e= .returned u∧OwnB w.heap.size w' u (t.giveZ kz z1 z2 S ds)∧Below w.heap.size w w':=by
 have HG:=hid (qdK t kz z1 z2 ds total ht S da dc w h hS hd hdl);have c0:w.cell? ⟨bp,0,none⟩=some (.int .u64 total):=qa hp 0;have hpl:=(Ai hp).1;clear h hS hd hdl ht;unfold TreeV.val at HG;go_enter Tryz.func94,Tryz.ntmps94
 go_wp2_with (first|((with_reducible show wpList _ _ _ (Oper.mk _ (Op.load 26 _) _ _ _ _::_) _ _);refine wpList_load_row rfl 26 _ rfl bt rfl _ _ _ _ hT Tryz.underlying26 rfl (by kernel_rfl) ?_)|((with_reducible show wpList _ _ _ (Oper.mk _ (Op.load 96 _) _ _ _ _::_) _ _);refine wpList_load_row rfl 96 _ rfl bl rfl _ _ _ _ hs Tryz.underlying96 rfl (by kernel_rfl) ?_))
 refine HG.out.mono ?_;rintro e w2 ⟨x,rfl,hx,hb2⟩;have HX:=hid hx;have HB:=hid hb2;clear hx hb2;go_wp2_with fail
 go_ret
 exact⟨_,rfl,HX.out,HB.out⟩
def qeK (st:yr)(D:List Int):List Int:=yl st.1 st.1.length++D++yl st.2 st.2.length
theorem qcr {m:Nat}{ds:List (List Int)}(h: ∀d∈ds,d.length≤m): ∀k,k≤ds.length→(yl ds k).length≤k*m
 | 0,_=>Nat.zero_le _
 | k+1,hk=>by
  have h1:=qcr h k (by omega);have h2:=h _ (ZX (k:=k) (by omega));simp only[yl,List.length_append,Nat.add_mul,Nat.one_mul];omega
theorem qgY (t:TreeV)(kz z1 z2 D:List Int)(total:Nat)(ht:(total:Int)≤18446744073709551615)(S:SpotV)(ch:Value)(st:yr)(bt bp bi bg bu ou k n uc leaf:Nat)(U V da:Value)(w:World)(h:TreeOk t kz z1 z2 w)(hS:SpotOk t total S)(hd:Hold w da D)(hD1:D≠[])(hdl:D.length≤64)(hi1:1≤t.i∧t.i≤64)
  (hT:w.heap[bt]? =some (.cells #[.int .i64 t.k,.int .i64 t.d,.int .i64 t.f,.int .i64 t.p,.int .u32 t.l,.int .i64 t.i,.slice t.ka t.kl t.kc,.slice t.sa t.sl t.sc,.slice t.pa t.pl t.pc] 26 (0,0))) (hp:w.heap[bp]? =some (.cells #[.int .u64 total,.int .u64 leaf,.slice (some ⟨bu,ou,none⟩) n uc] 55 (0,0))) (hi:w.heap[bi]? =some (.cells #[.int .i64 (k:Nat)] 3 (0,0))) (hg:w.heap[bg]? =some (.cells #[.int .i64 (S.row:Nat),.int .u64 (S.at_:Nat),.int .u64 (S.frm:Nat),.int .u64 (S.to_:Nat),.bool S.last,.bool S.root,ch] 131 (0,0)))
  (hk:k<n) (hU:w.cell? ⟨bu,ou+k*2,none⟩=some U) (hV:w.cell? ⟨bu,ou+k*2+1,none⟩=some V) (hbu:bu<w.heap.size) (hRU:pRowsAt w U st.1) (hRV:pRowsAt w V st.2) (hok:qfD 1048576 st.1∧qfD 1048576 st.2) (hlen: ∀d∈st.1++st.2,(d.length:Int)=t.i):
  Calls Tryz.prog 96 #[da,.pointer (some ⟨bp,0,none⟩),.pointer (some ⟨bi,0,none⟩),.pointer (some ⟨bt,0,none⟩),.pointer (some ⟨bg,0,none⟩)] w fun e w'=> ∃u,e= .returned u∧OwnB w.heap.size w' u (t.giveZ kz z1 z2 S (qeK st D))∧Below w.heap.size w w':=by
 obtain⟨b0,hb0⟩:=Ex w.heap.size;obtain⟨a0,c0,rfl, -, -⟩:=id hd.slice;have HD:=hid hd;have c2:w.cell? ⟨bp,2,none⟩=some (.slice (some ⟨bu,ou,none⟩) n uc):=qa hp 2;have ci:w.cell? ⟨bi,0,none⟩=some (.int .i64 (k:Nat)):=qa hi 0;have hpl:=(Ai hp).1;have hil:=(Ai hi).1;have hki:(k:Int)<(n:Int):=by omega
 have HT:=hid hT;have HP:=hid hp;have HI:=hid hi;have HGG:=hid hg;have HRU:=hid hRU;have HRV:=hid hRV;obtain⟨au,ku,VU,eu, -, -⟩:=id hRU;obtain⟨av,kv,VV,ev, -, -⟩:=id hRV;rw[eu]at hU HRU;rw[ev]at hV HRV;have hl1: ∀d∈st.1,d.length=t.i.toNat:=fun d hd=>by have:=hlen d (List.mem_append_left _ hd);omega
 have hl2: ∀d∈st.2,d.length=t.i.toNat:=fun d hd=>by have:=hlen d (List.mem_append_right _ hd);omega
 have HR1:=hid (qcr (m:=64) (fun d hd=>by have:=hl1 d hd;omega));have HR2:=hid (qcr (m:=64) (fun d hd=>by have:=hl2 d hd;omega));have HL1:=hid hl1;have HL2:=hid hl2;have HA1:=hid (fun d hd=>(hok.1.2 d hd).2);have HA2:=hid (fun d hd=>(hok.2.2 d hd).2);obtain⟨nb,hnb⟩:=Ex st.1.length;obtain⟨na,hna⟩:=Ex st.2.length;have hnb1:nb≤1048576:=by rw[←hnb];exact hok.1.1
 have hna1:na≤1048576:=by rw[←hna];exact hok.2.1
 rw[hnb]at hU HRU HR1;rw[hna]at hV HRV HR2;have HNB:=hid hnb;have HNA:=hid hna;have HMID:=hid (show qeK st D=yl st.1 nb++D++yl st.2 na by unfold qeK;rw[hnb,hna]);have HGV:=hid (fun(W:World) (hb:Below b0 w W) (xa:Option Addr) (xc:Nat) (hx:Hold W (.slice xa (yl st.1 nb++D++yl st.2 na).length xc) (yl st.1 nb++D++yl st.2 na)) (hxl:(yl st.1 nb++D++yl st.2 na).length≤1073741824)=>qdK t kz z1 z2 (yl st.1 nb++D++yl st.2 na) total ht S xa xc W (h.below (hb0▸hb)) hS hx hxl);clear h hS hd hT hp hi hg hRU hRV hok hlen hl1 hl2 hnb hna eu ev ht;go_enter Tryz.func96,Tryz.ntmps96
 go_wp2_with fail
 go_loopw [19,7] (fun i o wr=> ∃(j:Nat) (v:Value),i= .int .i64 j∧o=v∧j≤nb∧wr.ownsRow b0 5 1 v (yl st.1 j).length ((yl st.1 j).map qo)∧Below b0 w wr) (fun i _ _=>nb - (intOf i).toNat)
 case atStart=>exact⟨0,_,rfl,rfl,Nat.zero_le _,Wo _ _ _ _,Below.refl _ _⟩
 case round=>
  obtain⟨j,v,rfl,rfl,hj,hown,hb⟩:=hrel;have hsr:b0≤wr.heap.size:=by have:=hb.size;omega
  by_cases hlt:j<nb
  case pos=>
   have hlt2:(j:Int)<(nb:Int):=by omega
   obtain⟨-,b',o',x,cx,rfl,hb',hcell,hh8⟩:=pRowsAt.elem (HRU.out.below (hb0▸hb)) hlt;have hlz:(Yf st.1 j).length=t.i.toNat:=HL1.out _ (ZX (by have:=HNB.out;omega));have hne:Yf st.1 j≠[]:=fun e=>by rw[e]at hlz;simp at hlz;omega
   have hln:(yl st.1 j).length+(Yf st.1 j).length≤1099511627776:=by
    have:=HR1.out j (by omega)
    omega
   have HOW:=hid hown;have HB:=hid hb;clear hown hb hlz;go_wp2_with (at_builtin;refine Zr rfl _ _ rfl b0 (yl st.1 j) _ rfl HOW.out _ (Yf st.1 j) rfl hh8 hne hln hsr ?_;intro v' w' hown' hgrow)
   refine⟨⟨j+1,v',by go_num,rfl,by omega,by rw[yl];exact hown',HB.out.grown hgrow hsr (fun k e=>(HOW.out.lt k e).1)⟩,by simp[intOf]<;>omega⟩
  obtain rfl:j=nb:=by omega
  have hlD:(yl st.1 j).length+D.length≤1099511627776:=by
   have:=HR1.out j (by omega)
   omega
  have hD8:=(HD.out.below (hb0▸hb)).holds8;have HOW:=hid hown;have HB:=hid hb;have c2r:wr.cell? ⟨bp,2,none⟩=some (.slice (some ⟨bu,ou,none⟩) n uc):=qa (qd HP.out (hb0▸hb)) 2;have cir:wr.cell? ⟨bi,0,none⟩=some (.int .i64 (k:Nat)):=qa (qd HI.out (hb0▸hb)) 0;clear hown hb;go_upto_region 8 with(at_builtin;refine Zr rfl _ _ rfl b0 (yl st.1 j) _ rfl HOW.out _ D rfl hD8 hD1 hlD hsr ?_;intro v' w' hown' hgrow)
  have hb2:=HB.out.grown hgrow hsr (fun k e=>(HOW.out.lt k e).1);have HO2:=hid hown';have HB2:=hid hb2;have hs2:b0≤w'.heap.size:=by have:=hb2.size;omega
  have c2q:w'.cell? ⟨bp,2,none⟩=some (.slice (some ⟨bu,ou,none⟩) n uc):=qa (qd HP.out (hb0▸hb2)) 2;have ciq:w'.cell? ⟨bi,0,none⟩=some (.int .i64 (k:Nat)):=qa (qd HI.out (hb0▸hb2)) 0;have hplq:bp<w'.heap.size:=by omega
  have hilq:bi<w'.heap.size:=by omega
  have cVq:w'.cell? ⟨bu,ou+k*2+1,none⟩=some (.slice av na kv):=((hb0▸hb2:Below w.heap.size w w').cell (p:=⟨bu,ou+k*2+1,none⟩) hbu).trans hV;have hbuq:bu<w'.heap.size:=by omega
  clear HOW HB hown' hgrow hb2 hD8 c2r cir hsr;clear wr;go_wp2_with fail
  go_loopw [37,7] (fun i o wr=> ∃(j2:Nat) (v:Value),i= .int .i64 j2∧o=v∧j2≤na∧wr.ownsRow b0 5 1 v (yl st.1 j++D++yl st.2 j2).length ((yl st.1 j++D++yl st.2 j2).map qo)∧Below b0 w wr) (fun i _ _=>na - (intOf i).toNat)
  case atStart=>exact⟨0,_,rfl,rfl,Nat.zero_le _,by rw[show yl st.2 0=[] from rfl,List.append_nil];exact HO2.out,HB2.out⟩
  case round=>
   clear HO2 HB2 hs2 c2q ciq hplq hilq cVq hbuq;obtain⟨j2,v,rfl,rfl,hj2,hown,hb⟩:=hrel;have hsr:b0≤wr.heap.size:=by have:=hb.size;omega
   have hl0:=HR1.out j (by omega);have hl2:=HR2.out j2 (by omega);by_cases hlt:j2<na
   case pos=>
    have hlt2:(j2:Int)<(na:Int):=by omega
    obtain⟨-,b',o',x,cx,rfl,hb',hcell,hh8⟩:=pRowsAt.elem (HRV.out.below (hb0▸hb)) hlt;have hlz:(Yf st.2 j2).length=t.i.toNat:=HL2.out _ (ZX (by have:=HNA.out;omega));have hne:Yf st.2 j2≠[]:=fun e=>by rw[e]at hlz;simp at hlz;omega
    have hln:(yl st.1 j++D++yl st.2 j2).length+(Yf st.2 j2).length≤1099511627776:=by
     rw[List.length_append,List.length_append];omega
    have HOW:=hid hown;have HB:=hid hb;clear hown hb hlz hl0 hl2;go_wp2_with (at_builtin;refine Zr rfl _ _ rfl b0 (yl st.1 j++D++yl st.2 j2) _ rfl HOW.out _ (Yf st.2 j2) rfl hh8 hne hln hsr ?_;intro v' w' hown' hgrow)
    refine⟨⟨j2+1,v',by go_num,rfl,by omega,by rw[show yl st.1 j++D++yl st.2 (j2+1)=yl st.1 j++D++yl st.2 j2++Yf st.2 j2 by simp[yl]];exact hown',HB.out.grown hgrow hsr (fun k e=>(HOW.out.lt k e).1)⟩,by simp[intOf]<;>omega⟩
   obtain rfl:j2=na:=by omega
   obtain⟨va,vn,vc,rfl⟩:=qq hown;obtain rfl:=yu hown;have hbz: ∀z∈yl st.1 j++D++yl st.2 j2,0≤z∧z≤255:=by
    have key: ∀(ds:List (List Int)) (h: ∀d∈ds,qd6 d) (q:Nat),q≤ds.length→ ∀z∈yl ds q,0≤z∧z≤255:=by
     intro ds h q;induction q with
     | zero=>intro _ z hz;cases hz
     | succ q ih=>
      intro hq z hz;rcases List.mem_append.1 hz with h8|h8
      ·exact ih (by omega) z h8
      ·exact h _ (ZX (by omega)) z h8
    intro z hz;rcases List.mem_append.1 hz with h8|h8
    ·rcases List.mem_append.1 h8 with h9|h9
     ·exact key _ HA1.out _ (by have:=HNB.out;omega) z h9
     ·exact HD.out.1 z h9
    ·exact key _ HA2.out _ (by have:=HNA.out;omega) z h8
   have hgv:=HGV.out wr hb va vc (Qc hown hbz) (by rw[List.length_append,List.length_append];omega);rw[←HMID.out]at hgv hown⊢;have HGV2:=hid hgv;have HB:=hid hb;have hTr:=qd HT.out (hb0▸hb);have hGr:=qd HGG.out (hb0▸hb);have c0r:wr.cell? ⟨bp,0,none⟩=some (.int .u64 total):=qa (qd HP.out (hb0▸hb)) 0;have hplr:bp<wr.heap.size:=by omega
   clear hgv hown hb hbz HGV hl0 hl2;unfold TreeV.val at HGV2;have gc0:wr.cell? ⟨bg,0,none⟩=some (.int .i64 (S.row:Nat)):=qa hGr 0;have gc1:wr.cell? ⟨bg,1,none⟩=some (.int .u64 (S.at_:Nat)):=qa hGr 1;have gc2:wr.cell? ⟨bg,2,none⟩=some (.int .u64 (S.frm:Nat)):=qa hGr 2;have gc3:wr.cell? ⟨bg,3,none⟩=some (.int .u64 (S.to_:Nat)):=qa hGr 3;have gc4:wr.cell? ⟨bg,4,none⟩=some (.bool S.last):=qa hGr 4;have gc5:wr.cell? ⟨bg,5,none⟩=some (.bool S.root):=qa hGr 5;have hgr:bg<wr.heap.size:=(Ai hGr).1;go_wp2_with ((with_reducible show wpList _ _ _ (Oper.mk _ (Op.load 26 _) _ _ _ _::_) _ _);refine wpList_load_row rfl 26 _ rfl bt rfl _ _ _ _ hTr Tryz.underlying26 rfl (by kernel_rfl) ?_)
   refine HGV2.out.mono ?_;rintro e w9 ⟨x,rfl,hx,hb9⟩;have HX:=hid (hx.le hsr);have HBF:=hid (HB.out.trans (hb9.mono hsr));clear hx hb9;go_wp2_with fail
   go_ret
   exact⟨_,rfl,by rw[hb0];exact HX.out,by rw[hb0];exact HBF.out⟩
theorem qgs {big:Bool}{bs kz ds:List Int}{la:Bool}{o:Int}(h:1≤o∧o≤(mB big:Nat)):((jJ big bs kz la o ds).length:Int)=o:=by
 unfold jJ;rw[List.length_take,zD];omega
theorem jN {t:TreeV}(h:t.validE=0)(rt:Bool):1≤t.outN rt∧t.outN rt≤(mB t.big:Nat):=by
 have hmb:=yg h;obtain⟨-,d1,d2,d3,d4, -⟩:=qk h
 cases rt
 ·show 1≤t.i∧t.i≤_;omega
 ·show 1≤t.d∧t.d≤_;omega
theorem Zz {t:TreeV}(h:t.validE=0)(kz z1 z2:List Int)(row i:Nat)(la rt:Bool)(d:List Int):((t.node kz z1 z2 row i la rt d).length:Int)=t.outN rt:=qgs (jN h rt)
theorem yp (t:TreeV)(kz z1 z2:List Int)(row:Nat)(rt:Bool)(L:List (List Int)){m i:Nat}(h:i<m):qz (t.rowZ kz z1 z2 row rt L m) i=t.node kz z1 z2 row i (decide (i+1=L.length)) rt (qz L i):=by
 simp[qz,TreeV.rowZ,Lg,h]
def TreeV.pathR (t:TreeV)(kz z1 z2:List Int)(total leaf:Nat)(ss:List yr)(piece:List Int):Nat→List Int
 | 0=>t.giveZ kz z1 z2 (qw t total leaf 0) piece
 | k+1=>t.giveZ kz z1 z2 (qw t total leaf (k+1)) (qeK (Yn ss k) (t.pathR kz z1 z2 total leaf ss piece k))
def qdr (t:TreeV)(kz z1 z2:List Int)(total leaf:Nat)(ss:List yr)(piece:List Int):Nat→List Int
 | 0=>piece
 | k+1=>t.pathR kz z1 z2 total leaf ss piece k
theorem qem {t:TreeV}(hl:0≤t.l∧t.l≤4294967295){total leaf:Nat}(ht:(total:Int)≤18446744073709551615)(h:t.spotE total 0 leaf=0){k:Nat}(hk:k<(t.rowsOf total).length):SpotOk t total (qw t total leaf k):=by
 have her:t.err total=0:=by
  by_cases h':t.err total=0
  ·exact h'
  ·unfold TreeV.spotE at h;rw[if_pos h']at h;exact absurd h h'
 have hleaf:leaf<nth (t.rowsOf total) 0:=by
  unfold TreeV.spotE at h;rw[if_neg (by simp[her])]at h;by_cases hth:t.there total 0 leaf
  ·exact hth.2.2
  ·rw[if_neg hth]at h;omega
 have hR:=qA her;obtain⟨q1,q2,q3,q4, -⟩:=ZC her hleaf hk;have hP:=qcY hl ht her hk (yC hR hleaf k hk);refine⟨by rw[q3,q4];exact hP.1,by rw[q3];exact hP.2,by rw[q3,q4];exact q1,by rw[q3,q4];exact q2⟩
theorem qaF {t:TreeV}(h:t.validE=0)(kz z1 z2:List Int)(S:SpotV)(ds:List Int):(t.giveZ kz z1 z2 S ds).length≤64∧t.giveZ kz z1 z2 S ds≠[]:=by
 have h1:=Zz h kz z1 z2 S.row S.at_ S.last S.root ds;have h2:=jN h S.root;have h3:mB t.big≤64:=by cases t.big<;>decide
 refine⟨?_,fun e=>?_⟩
 ·show(t.node _ _ _ _ _ _ _ _).length≤64;omega
 ·have:(t.node kz z1 z2 S.row S.at_ S.last S.root ds).length=0:=by
   have e2:t.node kz z1 z2 S.row S.at_ S.last S.root ds=[]:=e;rw[e2];rfl
  omega
theorem Zy {t:TreeV}(h:t.validE=0)(kz z1 z2:List Int)(total leaf:Nat)(ss:List yr)(piece:List Int)(k:Nat):(t.pathR kz z1 z2 total leaf ss piece k).length≤64∧t.pathR kz z1 z2 total leaf ss piece k≠[]:=by
 cases k<;>exact qaF h ..
theorem qic:(Tryz.prog.info? 37).map (fun i=>(i.zero,i.size,i.bytes))=some (some .nilFunc,1,8):=by kernel_rfl
def qdM (bt bp bl:Nat)(BI BG:Nat→Nat)(j:Nat):List Value:= .func (.func 94) #[] #[.pointer (some ⟨bt,0,none⟩),.pointer (some ⟨bp,0,none⟩),.pointer (some ⟨bl,0,none⟩)]::(List.range j).map fun i=> .func (.func 96) #[] #[.pointer (some ⟨bp,0,none⟩),.pointer (some ⟨BI i,0,none⟩),.pointer (some ⟨bt,0,none⟩),.pointer (some ⟨BG i,0,none⟩)]
theorem qgh (bt bp bl:Nat)(BI BG:Nat→Nat)(j x y:Nat):qdM bt bp bl (fun i=>if i=j then x else BI i) (fun i=>if i=j then y else BG i) (j+1)=qdM bt bp bl BI BG j++[.func (.func 96) #[] #[.pointer (some ⟨bp,0,none⟩),.pointer (some ⟨x,0,none⟩),.pointer (some ⟨bt,0,none⟩),.pointer (some ⟨y,0,none⟩)]]:=by
 unfold qdM;rw[List.range_succ,List.map_append,List.cons_append];congr 2
 ·refine List.map_congr_left fun i hi=>?_
  have:=List.mem_range.1 hi
  show Value.func _ _ #[_,.pointer (some ⟨if i=j then x else BI i,0,none⟩),_,.pointer (some ⟨if i=j then y else BG i,0,none⟩)]=_
  rw[if_neg (by omega),if_neg (by omega)]
 ·simp
def JG (t:TreeV)(total leaf j:Nat):Array Value:= #[.int .i64 ((qw t total leaf (j+1)).row:Nat),.int .u64 ((qw t total leaf (j+1)).at_:Nat),.int .u64 ((qw t total leaf (j+1)).frm:Nat),.int .u64 ((qw t total leaf (j+1)).to_:Nat),.bool (qw t total leaf (j+1)).last,.bool (qw t total leaf (j+1)).root,.int .u64 (chI t total leaf j)]
def JB (t:TreeV)(kz z1 z2:List Int)(total leaf:Nat)(ss:List yr)(piece:List Int)(b:Nat)(w:World)(v:Value)(e:Int):Prop:=
 (t.spotE total 0 leaf≠0∧e=t.spotE total 0 leaf∧v= .slice none 0 0)∨
 (t.spotE total 0 leaf=0∧ ¬((piece.length:Int)=((qw t total leaf 0).to_:Int) - ((qw t total leaf 0).frm:Int)∧qbu t.i ((t.rowsOf total).length - 1) (chI t total leaf) (afI t total leaf) ss)∧e=4∧v= .slice none 0 0)∨
 (t.spotE total 0 leaf=0∧((piece.length:Int)=((qw t total leaf 0).to_:Int) - ((qw t total leaf 0).frm:Int)∧qbu t.i ((t.rowsOf total).length - 1) (chI t total leaf) (afI t total leaf) ss)∧e=0∧OwnB b w v (t.pathR kz z1 z2 total leaf ss piece ((t.rowsOf total).length - 1)))
theorem zY {t:TreeV}(hl:0≤t.l∧t.l≤4294967295){total leaf:Nat}(h:t.spotE total 0 leaf=0):(qw t total leaf 0).frm≤(qw t total leaf 0).to_∧(qw t total leaf 0).to_≤total∧(qw t total leaf 0).frm=leaf*t.ln∧leaf<nth (t.rowsOf total) 0:=by
 have her:t.err total=0:=by
  by_cases h':t.err total=0
  ·exact h'
  ·unfold TreeV.spotE at h;rw[if_pos h']at h;exact absurd h h'
 have hleaf:leaf<nth (t.rowsOf total) 0:=by
  unfold TreeV.spotE at h;rw[if_neg (by simp[her])]at h;by_cases hth:t.there total 0 leaf
  ·exact hth.2.2
  ·rw[if_neg hth]at h;omega
 obtain⟨hl1,hl2,hln,h0⟩:=Qo hl her;have hR:=qA her;have hn: ¬(1≤0∧nth (t.rowsOf total) 0=1):=by omega
 unfold qw Qr;by_cases h2:leaf=nth (t.rowsOf total) 0 - 1
 ·rw[yM hn h2];rw[hR.first]at hleaf;have:=JR hl1 hleaf
  exact⟨by simpa using this,by simp,by simp,by rw[hR.first];exact hleaf⟩
 ·rw[Yk hn h2];rw[hR.first]at hleaf h2;have:=JR (total:=total) (l:=t.ln) (k:=leaf+1) hl1 (by omega)
  refine⟨?_,by simpa using this,by simp,by rw[hR.first];exact hleaf⟩;simp only[if_true];exact Nat.mul_le_mul_right _ (by omega)
theorem qgW (t:TreeV)(hl:0≤t.l∧t.l≤4294967295)(total leaf:Nat)(ht:(total:Int)≤18446744073709551615)(he:t.spotE total 0 leaf≠0)(u v:Value)(w:World):
  Calls Tryz.prog 55 #[t.val,.agg #[.int .u64 total,.int .u64 leaf,u],v] w fun r w'=>r= .returned (.tuple #[.slice none 0 0,.int .i64 (t.spotE total 0 leaf)])∧Below w.heap.size w w':=by
 obtain⟨b0,hb0⟩:=Ex w.heap.size;have HW:=hid (qgw t hl total ht leaf he);have hq:(t.spotE total 0 leaf != 0)=true:=by rw[bne_iff_ne];exact he
 generalize t.spotE total 0 leaf=ev at*;clear he;unfold TreeV.val at*;go_enter Tryz.func55,Tryz.ntmps55
 go_upto_region 1 with(fail)
 refine qj ?_;intro wA hwA;have hrT:wA.heap[b0]? =some (.cells #[.int .i64 t.k,.int .i64 t.d,.int .i64 t.f,.int .i64 t.p,.int .u32 t.l,.int .i64 t.i,.slice t.ka t.kl t.kc,.slice t.sa t.sl t.sc,.slice t.pa t.pl t.pc] 26 (0,0)):=by rw[hwA];exact(Bh _ _ _ (by simp;omega)).trans (qc _ _ hb0.symm)
 have hrP:wA.heap[b0+1]? =some (.cells #[.int .u64 total,.int .u64 leaf,u] 55 (0,0)):=by rw[hwA];exact qc _ _ (by simp;omega)
 have hbA:Below b0 w wA:=by rw[hwA,←hb0];exact(Br.alloc Nl _).alloc (by simp) _
 have hsA:b0+1<wA.heap.size:=(Ai hrP).1;have k0:wA.cell? ⟨b0+1,0,none⟩=some (.int .u64 total):=qa hrP 0;have k1:wA.cell? ⟨b0+1,1,none⟩=some (.int .u64 leaf):=qa hrP 1;clear hwA;go_wp2_with ((with_reducible show wpList _ _ _ (Oper.mk _ (Op.load 26 _) _ _ _ _::_) _ _);refine wpList_load_row rfl 26 _ rfl b0 rfl _ _ _ _ hrT Tryz.underlying26 rfl (by kernel_rfl) ?_)
 refine(HW.out wA).mono ?_;rintro e w2 ⟨rfl,hb2⟩;have HB:=hid (hbA.trans (hb2.mono (show b0≤wA.heap.size by omega)));clear hb2 hbA;go_wp2_with fail
 go_ret2
 exact⟨rfl,by rw[hb0];exact HB.out⟩
theorem qh1 (t:TreeV)(kz z1 z2 piece:List Int)(total leaf:Nat)(ht:(total:Int)≤18446744073709551615)(hleaf:(leaf:Int)≤18446744073709551615)(he:t.spotE total 0 leaf=0)(u pv:Value)(ss:List yr)(w:World)(h:TreeOk t kz z1 z2 w)(hs:StepsAt w u ss)(ho:jy 1048576 ss)(hp:Hold w pv piece)(hpl:piece.length≤1048576):
  Calls Tryz.prog 55 #[t.val,.agg #[.int .u64 total,.int .u64 leaf,u],pv] w fun r w'=> ∃v e,r= .returned (.tuple #[v,.int .i64 e])∧JB t kz z1 z2 total leaf ss piece w.heap.size w' v e∧Below w.heap.size w w':=by
 obtain⟨b0,hb0⟩:=Ex w.heap.size;obtain⟨i0,hi,hz0,hz1,hz2⟩:=info_parts qic;have F:=Z9 h.l ht he;obtain⟨hkf,h00,i1,i2,hv0⟩:=j8 h.l ht he;obtain⟨m,hm⟩:=Ex ((t.rowsOf total).length - 1);have hm1:1≤m:=by have:=F.two;omega
 have hm2:m≤255:=by have:=F.most;omega
 have hml:(t.rowsOf total).length=m+1:=by have:=F.two;omega
 have hway:=qaN t h.l total ht leaf he;rw[hm]at hway;have HW:=hid hway;have HKI:=hid (qhj hkf);rw[hm]at HKI;have HSPK:=hid (fun(k:Nat) (hk:k≤m)=>qem h.l ht he (k:=k) (by rw[hml];omega));obtain⟨S0,hS0⟩:=Ex (qw t total leaf 0);have hsp0:=HSPK.out 0 (by omega);have hrow0:(qw t total leaf 0).row=0∧(qw t total leaf 0).at_=leaf:=⟨(ze _ _ _ _ _ _).1,(ze _ _ _ _ _ _).2.1⟩;rw[hS0]at hsp0 hrow0;have hspot:=fun(W:World)=>YT t h.l total ht ((0:Nat):Int) leaf W
 rw[show t.spotR total ((0:Nat):Int) leaf=S0 by have:=hsp0.s;rw[hrow0.1,hrow0.2]at this;exact this,show t.spotE total ((0:Nat):Int) leaf=0 from he]at hspot;unfold SpotV.val at hspot;have HSP0:=hid hspot;have hsp1:=zY h.l he;rw[hS0]at hsp1;have h0t:(S0.frm:Int)≤S0.to_∧(S0.to_:Int)≤18446744073709551615:=by omega
 obtain⟨h0t1,h0t2⟩:=h0t;have hju:IntKind.u64.wrap (piece.length:Int)=(piece.length:Int):=u64_wrap_id _ (by omega) (by omega);have hjs:IntKind.u64.wrap ((S0.to_:Int) - (S0.frm:Int))=(S0.to_:Int) - (S0.frm:Int):=u64_wrap_id _ (by omega) (by omega);have HFIT:=hid (fun(W:World) (g cap:Nat) (h1:StepsAt W u ss) (hst:StagesIs W g m (fun j=>((qw t total leaf (j+1)).row:Int)) (fun j=>((qw t total leaf (j+1)).at_:Int)) (fun j=>((qw t total leaf (j+1)).frm:Int)) (fun j=>((qw t total leaf (j+1)).to_:Int)) (chI t total leaf) (fun j=>(qw t total leaf (j+1)).last) (fun j=>(qw t total leaf (j+1)).root))=>qhp t total leaf u ss W h1 ho g cap m hst.1 hm2 hm1 _ _ _ _ (chI t total leaf) (afI t total leaf) _ _ hst.2 HKI.out);have HSAY:Hid (∀(W:World) (v:Value) (e:Int),JB t kz z1 z2 total leaf ss piece b0 W v e↔((t.spotE total 0 leaf≠0∧e=t.spotE total 0 leaf∧v= .slice none 0 0)∨(t.spotE total 0 leaf=0∧ ¬((piece.length:Int)=(S0.to_:Int) - (S0.frm:Int)∧qbu t.i m (chI t total leaf) (afI t total leaf) ss)∧e=4∧v= .slice none 0 0)∨(t.spotE total 0 leaf=0∧((piece.length:Int)=(S0.to_:Int) - (S0.frm:Int)∧qbu t.i m (chI t total leaf) (afI t total leaf) ss)∧e=0∧OwnB b0 W v (t.pathR kz z1 z2 total leaf ss piece m)))):=hid (fun W v e=>by unfold JB;rw[hS0,hm]);have HE:=hid he;have HT0:=hid h;have HS:=hid hs;have HO:=hid ho;have HP:=hid hp;obtain⟨pa,pc,rfl, -, -⟩:=id hp.slice;obtain⟨ua,uc,UU,VV,rfl,hun, -⟩:=id hs;have HPD:Hid (t.pathR kz z1 z2 total leaf ss piece 0=t.giveZ kz z1 z2 S0 piece):=hid (by unfold TreeV.pathR;rw[hS0]);have HS0:=hid hsp0;have HI12:=hid (⟨i1,i2⟩:1≤t.i∧t.i≤64);have HV0:=hid hv0;have HR0:=hid hrow0;clear F hkf h00 i1 i2 hv0 hm hml hway hsp0 hrow0 hspot hsp1 he h hs ho hp hS0 hleaf;unfold TreeV.val at*;go_enter Tryz.func55,Tryz.ntmps55
 go_upto_region 1 with(fail)
 refine qj ?_;intro wA hwA;have hrT:wA.heap[b0]? =some (.cells #[.int .i64 t.k,.int .i64 t.d,.int .i64 t.f,.int .i64 t.p,.int .u32 t.l,.int .i64 t.i,.slice t.ka t.kl t.kc,.slice t.sa t.sl t.sc,.slice t.pa t.pl t.pc] 26 (0,0)):=by rw[hwA];exact(Bh _ _ _ (by simp;omega)).trans (qc _ _ hb0.symm)
 have hrP:wA.heap[b0+1]? =some (.cells #[.int .u64 total,.int .u64 leaf,.slice ua ss.length uc] 55 (0,0)):=by rw[hwA];exact qc _ _ (by simp;omega)
 have hbA:Below b0 w wA:=by rw[hwA,←hb0];exact(Br.alloc Nl _).alloc (by simp) _
 have hsA:b0+1<wA.heap.size:=(Ai hrP).1;have k0:wA.cell? ⟨b0+1,0,none⟩=some (.int .u64 total):=qa hrP 0;have k1:wA.cell? ⟨b0+1,1,none⟩=some (.int .u64 leaf):=qa hrP 1;clear hwA;go_wp2_with ((with_reducible show wpList _ _ _ (Oper.mk _ (Op.load 26 _) _ _ _ _::_) _ _);refine wpList_load_row rfl 26 _ rfl b0 rfl _ _ _ _ hrT Tryz.underlying26 rfl (by kernel_rfl) ?_)
 refine(HW.out wA).mono ?_;rintro e w2 ⟨g,cap,rfl,hst,hb2⟩;clear k0 k1;have hrT2:=qd hrT hb2;have hrP2:=qd hrP hb2;have HB2:=hid (hbA.trans (hb2.mono (show b0≤wA.heap.size by omega)));have HST:=hid hst;have hs2:b0+1<w2.heap.size:=by have:=hb2.size;omega
 have k0:w2.cell? ⟨b0+1,0,none⟩=some (.int .u64 total):=qa hrP2 0;have k1:w2.cell? ⟨b0+1,1,none⟩=some (.int .u64 leaf):=qa hrP2 1;have HRT2:=hid hrT2;have HRP2:=hid hrP2;clear hst hb2 hbA hrT hrP HW hsA;clear wA;go_upto_region 4 with(fail)
 go_wp2_with ((with_reducible show wpList _ _ _ (Oper.mk _ (Op.load 26 _) _ _ _ _::_) _ _);refine wpList_load_row rfl 26 _ rfl b0 rfl _ _ _ _ hrT2 Tryz.underlying26 rfl (by kernel_rfl) ?_)
 refine(HSP0.out w2).mono ?_;rintro e w3 ⟨rfl,hb3⟩;have HRT3:=hid (qd HRT2.out hb3);have HRP3:=hid (qd HRP2.out hb3);have HB3:=hid (HB2.out.trans (hb3.mono (show b0≤w2.heap.size by omega)));have HST3:=hid (HST.out.below hb3);have hs3:b0+1<w3.heap.size:=by have:=hb3.size;omega
 clear hb3 hrT2 hrP2 k0 k1 HRT2 HRP2 HB2 HST hs2;go_upto_region 5 with((with_reducible show wpList _ _ _ (Oper.mk none (Op.store 96 _ _) _ _ _ _::_) _ _);refine wpList_store_row rfl 96 _ _ rfl w3.heap.size #[.int .i64 (S0.row:Nat),.int .u64 (S0.at_:Nat),.int .u64 (S0.frm:Nat),.int .u64 (S0.to_:Nat),.bool S0.last,.bool S0.root] rfl rfl 96 _ (Wn _ _) (by kernel_rfl) rfl (by simp[Value.oneCell']) ?_)
 refine qj ?_;intro V hV;obtain⟨b3,hb3⟩:=Ex w3.heap.size;have hrL:V.heap[b3]? =some (.cells #[.int .i64 (S0.row:Nat),.int .u64 (S0.at_:Nat),.int .u64 (S0.frm:Nat),.int .u64 (S0.to_:Nat),.bool S0.last,.bool S0.root] 96 (0,0)):=by rw[hV,←hb3];exact setRow_heap _ _ _ _ _ _ (Wn _ _)
 have hbV:Below b3 w3 V:=by rw[hV,←hb3];exact below_setRow (Br.alloc Nl _) Nl _
 have HRT:=hid ((hbV.block b0 (by omega)).trans HRT3.out);have HRP:=hid ((hbV.block (b0+1) (by omega)).trans HRP3.out);have HBV:=hid (HB3.out.trans (hbV.mono (show b0≤b3 by omega)));have HSTV:=hid (HST3.out.below (hb3▸hbV));have HRL:=hid hrL;rw[hb3];have hlt:b0+1<b3∧b3<V.heap.size:=by have:=(Ai hrL).1;omega
 obtain⟨hlt,hVs⟩:=hlt;have c2:V.cell? ⟨b3,2,none⟩=some (.int .u64 (S0.frm:Nat)):=qa hrL 2;have c3:V.cell? ⟨b3,3,none⟩=some (.int .u64 (S0.to_:Nat)):=qa hrL 3;have hVs0:b0<V.heap.size∧b0+1<V.heap.size:=by omega
 obtain⟨hVs0,hVs1⟩:=hVs0;clear hV hbV hrL hb3 HRT3 HRP3 HB3 HST3 hs3 HSP0;by_cases hlen:(piece.length:Int)=(S0.to_:Int) - (S0.frm:Int)
 case neg=>
  have hq:((piece.length:Int) != (S0.to_:Int) - (S0.frm:Int))=true:=by rw[bne_iff_ne];exact hlen
  have HLEN:=hid hlen;clear hlen;go_wp2_with fail
  go_ret2
  exact⟨_,_,rfl,by rw[hb0];exact(HSAY.out _ _ _).2 (.inr (.inl ⟨HE.out,fun h=>HLEN.out h.1,rfl,rfl⟩)),by rw[hb0];exact HBV.out⟩
 have hq:((piece.length:Int) != (S0.to_:Int) - (S0.frm:Int))=false:=by rw[hlen];simp
 have HLEN:=hid hlen;clear hlen;have tc0:V.cell? ⟨b0,0,none⟩=some (.int .i64 t.k):=qa HRT.out 0;have tc1:V.cell? ⟨b0,1,none⟩=some (.int .i64 t.d):=qa HRT.out 1;have tc2:V.cell? ⟨b0,2,none⟩=some (.int .i64 t.f):=qa HRT.out 2;have tc3:V.cell? ⟨b0,3,none⟩=some (.int .i64 t.p):=qa HRT.out 3;have tc4:V.cell? ⟨b0,4,none⟩=some (.int .u32 t.l):=qa HRT.out 4;have tc5:V.cell? ⟨b0,5,none⟩=some (.int .i64 t.i):=qa HRT.out 5;have tc6:V.cell? ⟨b0,6,none⟩=some (.slice t.ka t.kl t.kc):=qa HRT.out 6;have tc7:V.cell? ⟨b0,7,none⟩=some (.slice t.sa t.sl t.sc):=qa HRT.out 7;have tc8:V.cell? ⟨b0,8,none⟩=some (.slice t.pa t.pl t.pc):=qa HRT.out 8;have pc0:V.cell? ⟨b0+1,0,none⟩=some (.int .u64 total):=qa HRP.out 0;have pc1:V.cell? ⟨b0+1,1,none⟩=some (.int .u64 leaf):=qa HRP.out 1;have pc2:V.cell? ⟨b0+1,2,none⟩=some (.slice ua ss.length uc):=qa HRP.out 2;go_wp2_with fail
 refine(HFIT.out V g cap (HS.out.below (hb0▸HBV.out)) HSTV.out).mono ?_;rintro e w5 ⟨bb,rfl,hbf,hb5⟩;have HBF:=hid hbf;have HRT5:=hid (qd HRT.out hb5);have HRP5:=hid (qd HRP.out hb5);have HRL5:=hid (qd HRL.out hb5);have HB5:=hid (HBV.out.trans (hb5.mono (show b0≤V.heap.size by omega)));have HST5:=hid (HSTV.out.below hb5);have hs5:b3<w5.heap.size:=by have:=hb5.size;omega
 clear hbf hb5 HRT HRP HRL HBV HSTV c2 c3 hVs hVs0 hVs1 HFIT tc0 tc1 tc2 tc3 tc4 tc5 tc6 tc7 tc8 pc0 pc1 pc2;clear V
 cases bb
 case false=>
  go_wp2_with fail
  go_ret2
  exact⟨_,_,rfl,by rw[hb0];exact(HSAY.out _ _ _).2 (.inr (.inl ⟨HE.out,fun h=>absurd (HBF.out.2 h.2) (by decide),rfl,rfl⟩)),by rw[hb0];exact HB5.out⟩
 go_upto_region 8 with(fail)
 go_upto_region 9 with(at_builtin;refine QB rfl _ _ _ rfl w5.heap.size 37 (by decide) i0 .nilFunc 1 8 Tryz.underlying167 hi hz0 hz1 hz2 rfl (by decide) (.slice none 0 0) 0 [] [.func (.func 94) #[] #[.pointer (some ⟨b0,0,none⟩),.pointer (some ⟨b0+1,0,none⟩),.pointer (some ⟨b3,0,none⟩)]] _ rfl (Wo _ _ _ _) rfl rfl (by simp[Value.oneCell']) (by unfold maxLen;omega) (by omega) Nl ?_;intro v' w' hown' hkb' hsp')
 have HOWN:=hid hown';have hbW:Below w5.heap.size w5 w':=⟨hkb'.os,hkb'.tape,hkb'.output,hkb'.size,fun k hk=>hkb'.block k hk⟩;have HBW:=hid hbW;have hmI:(m:Int)≤255:=by omega
 have hgl5:g<w5.heap.size:=HST5.out.1;clear hown' hkb' hsp' hbW;go_wp2_with fail
 go_loopw [61,12] (fun i v wr=> ∃(j:Nat) (BI BG:Nat→Nat),i= .int .i64 (j:Nat)∧j≤m∧wr.ownsRow w5.heap.size 37 1 v (j+1) (qdM b0 (b0+1) b3 BI BG j)∧(∀q,q<j→wr.heap[BI q]? =some (.cells #[.int .i64 (q:Nat)] 3 (0,0))∧wr.heap[BG q]? =some (.cells (JG t total leaf q) 131 (0,0)))∧Below w5.heap.size w5 wr) (fun i _ _=>m - (intOf i).toNat)
 case atStart=>exact⟨0,fun _=>0,fun _=>0,rfl,Nat.zero_le _,HOWN.out,fun q hq=>absurd hq (by omega),HBW.out⟩
 case round=>
  clear HOWN HBW;obtain⟨j,BI,BG,rfl,hj,hown,hbx,hb⟩:=hrel;by_cases hlt:j<m
  case pos=>
   have hlt2:(j:Int)<(m:Int):=by omega
   obtain⟨s0,s1,s2,s3,s4,s5,s6⟩:=HST5.out.2 j hlt;have hcl: ∀o,wr.cell? ⟨g,o,none⟩=w5.cell? ⟨g,o,none⟩:=fun o=>hb.cell (p:=⟨g,o,none⟩) hgl5
   have z0:=(hcl _).trans s0;have z1:=(hcl _).trans s1;have z2:=(hcl _).trans s2;have z3:=(hcl _).trans s3;have z4:=(hcl _).trans s4;have z5:=(hcl _).trans s5;have z6:=(hcl _).trans s6;have hglr:g<wr.heap.size:=by have:=hb.size;omega
   obtain⟨va,vn,vc,rfl⟩:=qq hown;obtain rfl:j+1=vn:=(yu hown).symm;have HOW:=hid hown;have HBX:=hid hbx;have HB:=hid hb;have hwr:w5.heap.size≤wr.heap.size:=hb.size;clear s0 s1 s2 s3 s4 s5 s6 hcl hown hbx hb;go_upto_region 12 with((with_reducible show wpList _ _ _ (Oper.mk none (Op.store 131 _ _) _ _ _ _::_) _ _);refine wpList_store_row rfl 131 _ _ rfl (wr.heap.size+1) (JG t total leaf j) rfl rfl 131 _ (qc _ _ (by simp)) (by kernel_rfl) rfl (by simp[Value.oneCell',JG]) ?_)
   refine qj ?_;intro Y hY;obtain⟨bw,hbw⟩:=Ex wr.heap.size;have hrG:Y.heap[bw+1]? =some (.cells (JG t total leaf j) 131 (0,0)):=by rw[hY,←hbw];exact setRow_heap _ _ _ _ _ _ (qc _ _ (by simp))
   have hrI:Y.heap[bw]? =some (.cells #[.int .i64 (j:Nat)] 3 (0,0)):=by rw[hY,←hbw];exact((below_setRow (Br.alloc (by simp) _) (Nat.le_refl (wr.heap.size+1)) _).block wr.heap.size (by omega)).trans (Wn _ _)
   have hbY:Below bw wr Y:=by rw[hY,←hbw];exact below_setRow ((Br.alloc Nl _).alloc (by simp) _) (by omega) _
   have hownY:Y.ownsRow w5.heap.size 37 1 (.slice va (j+1) vc) (j+1) (qdM b0 (b0+1) b3 BI BG j):=ZU HOW.out (fun g2 _ h2=>hbY.block g2 (by omega));have HOY:=hid hownY;have HRI:=hid hrI;have HRG:=hid hrG;have hsY:bw+1<Y.heap.size:=(Ai hrG).1;have HBY:=hid (HB.out.trans (hbY.mono (show w5.heap.size≤bw by omega)));have HBXY:Hid (∀q,q<j→Y.heap[BI q]? =some (.cells #[.int .i64 (q:Nat)] 3 (0,0))∧Y.heap[BG q]? =some (.cells (JG t total leaf q) 131 (0,0))):=hid (fun q hq=>⟨qd (HBX.out q hq).1 (hbw▸hbY),qd (HBX.out q hq).2 (hbw▸hbY)⟩);rw[hbw];have hgY:g<Y.heap.size:=by omega
   have hwY:w5.heap.size≤Y.heap.size:=by omega
   clear hY hrG hrI hbY hownY HOW HBX HB hbw z0 z1 z2 z3 z4 z5 z6 hglr hwr;clear wr;go_wp2_with (at_builtin;refine QB rfl _ _ _ rfl w5.heap.size 37 (by decide) i0 .nilFunc 1 8 Tryz.underlying167 hi hz0 hz1 hz2 rfl (by decide) (.slice va (j+1) vc) (j+1) (qdM b0 (b0+1) b3 BI BG j) [.func (.func 96) #[] #[.pointer (some ⟨b0+1,0,none⟩),.pointer (some ⟨bw,0,none⟩),.pointer (some ⟨b0,0,none⟩),.pointer (some ⟨bw+1,0,none⟩)]] _ rfl HOY.out rfl rfl (by simp[Value.oneCell']) (by unfold maxLen;omega) (by omega) hwY ?_;intro v' w' hown' hkb' hsp')
   have hbZ:Below w5.heap.size Y w':=⟨hkb'.os,hkb'.tape,hkb'.output,hkb'.size,fun k hk=>hkb'.block k hk⟩;have stay: ∀(p:Nat) (c:Array Value) (T:TypeId),T≠37→Y.heap[p]? =some (.cells c T (0,0))→w'.heap[p]? =some (.cells c T (0,0)):=fun p c T hT hp=>(hsp'.block p (Ai hp).1 (fun e=>qh2 HOY.out hp hT e.symm)).trans hp
   refine⟨⟨j+1,fun i=>if i=j then bw else BI i,fun i=>if i=j then bw+1 else BG i,by go_num,by omega,by rw[qgh];exact hown',fun q hq=>?_,HBY.out.trans hbZ⟩,by simp[intOf]<;>omega⟩;by_cases hqj:q=j
   ·subst hqj;simp only[if_true];exact⟨stay _ _ _ (by decide) HRI.out,stay _ _ _ (by decide) HRG.out⟩
   ·simp only[if_neg hqj];exact⟨stay _ _ _ (by decide) (HBXY.out q (by omega)).1,stay _ _ _ (by decide) (HBXY.out q (by omega)).2⟩
  obtain rfl:m=j:=by omega
  obtain⟨wm,rfl⟩: ∃wm,wm=wr:=⟨_,rfl⟩;obtain⟨gf,cf,rfl⟩:=ownsRow_form hown (by omega);have hfc: ∀i u,(qdM b0 (b0+1) b3 BI BG m)[i]? =some u→wm.cell? ⟨gf,i,none⟩=some u:=by
   obtain⟨cur,e1,e2,e3, -⟩:=YM hown;intro i u hi;rw[qa e1 i];have h8:(cur.toList.take (m+1))[i]? =some u:=by rw[e3];exact hi
   rw[List.getElem?_take]at h8;split at h8
   ·rw[←Array.getElem?_toList];exact h8
   ·cases h8
  have hgf:gf<wm.heap.size:=by obtain⟨cur,e1, -⟩:=YM hown;exact(Ai e1).1
  have HF0:=hid (hfc 0 _ rfl);have HFK:Hid (∀k,k<m→wm.cell? ⟨gf,k+1,none⟩=some (.func (.func 96) #[] #[.pointer (some ⟨b0+1,0,none⟩),.pointer (some ⟨BI k,0,none⟩),.pointer (some ⟨b0,0,none⟩),.pointer (some ⟨BG k,0,none⟩)])):=hid (fun k hk=>hfc (k+1) _ (by simp[qdM,hk]));have HBX:=hid hbx;have HRT6:=hid (qd HRT5.out hb);have HRP6:=hid (qd HRP5.out hb);have HRL6:=hid (qd HRL5.out hb);have HB6:=hid (HB5.out.trans (hb.mono (show b0≤w5.heap.size by omega)));have hs6:b3<wm.heap.size:=by have:=hb.size;omega
  have hfit:=HBF.out.1 (by first|rfl|trivial);have HTW:=hid (HT0.out.below (hb0▸HB6.out));have HPW:=hid (HP.out.below (hb0▸HB6.out));have hsW:=HS.out.below (hb0▸HB6.out);clear hown hfc hb hbx HRT5 HRP5 HRL5 HB5 HST5 hgl5 hs5;obtain⟨a',uc',UU,VV,eqs, -,hrows⟩:=hsW;simp only[Value.slice.injEq,true_and]at eqs;obtain⟨rfl,rfl⟩:=eqs;rcases hrows with h8|⟨bu,ou,rfl,hbu,hUV⟩
  ·have:=hfit.1;rw[h8]at this;simp at this;omega
  have HUV:=hid hUV;have HFIT:=hid hfit;have HSL:=hid hfit.1;clear hUV hfit;have hDL: ∀q,(qdr t kz z1 z2 total leaf ss piece q).length≤1048576:=by
   intro q
   cases q with
   | zero=>exact hpl
   | succ q=>have:=(Zy HV0.out kz z1 z2 total leaf ss piece q).1;show(t.pathR kz z1 z2 total leaf ss piece q).length≤_;omega
  have HDL:=hid hDL;have hmw:m+1≤256:=by omega
  clear hDL;go_wp2_with fail
  go_loopw [74,15] (fun i d W=> ∃q:Nat,i= .int .i64 (q:Nat)∧q≤m+1∧Hold W d (qdr t kz z1 z2 total leaf ss piece q)∧(1≤q→OwnB b0 W d (qdr t kz z1 z2 total leaf ss piece q))∧Below wm.heap.size wm W) (fun i _ _=>m+1 - (intOf i).toNat)
  case atStart=>exact⟨0,rfl,Nat.zero_le _,HPW.out,fun h=>absurd h (by decide),Below.refl _ _⟩
  case round=>
   obtain⟨q,rfl,hqm,hD,hO,hb⟩:=hrel;clear HPW;have hgr:gf<wr.heap.size:=by have:=hb.size;omega
   have HB:=hid (HB6.out.trans (hb.mono (show b0≤wm.heap.size by omega)));by_cases hlt:q<m+1
   case pos=>
    have hlt2:(q:Int)<(m:Int)+1:=by omega
    by_cases hq0:q=0
    case pos=>
     have c0:wr.cell? ⟨gf,q,none⟩=some (.func (.func 94) #[] #[.pointer (some ⟨b0,0,none⟩),.pointer (some ⟨b0+1,0,none⟩),.pointer (some ⟨b3,0,none⟩)]):=by rw[hq0];exact(hb.cell (p:=⟨gf,0,none⟩) hgf).trans HF0.out
     have hrt:=qd HRT6.out hb;have hrp:=qd HRP6.out hb;have hrl:=qd HRL6.out hb;have hD1:=hD;rw[hq0]at hD1;obtain⟨da,dc,rfl, -, -⟩:=id hD1.slice;change Hold wr (.slice da piece.length dc) piece at hD1
     have hG:=qgZ t kz z1 z2 piece total ht S0 b0 (b0+1) b3 leaf _ da dc wr (HTW.out.below hb) HS0.out hD1 (by omega) hrt hrp hrl;have HG:=hid hG;have HQ:=hid hq0;have hsr:b0≤wr.heap.size:=by have:=hb.size;omega
     clear hD hO hrt hrp hrl hD1 hG hq0;have HB0:=hid hb;clear hb;go_wp2_with fail
     refine HG.out.mono ?_;rintro e w9 ⟨x,rfl,hx,hb9⟩;have HX:=hid hx;have HB9:=hid hb9;clear hx hb9;go_wp2_with fail
     have hp1:qdr t kz z1 z2 total leaf ss piece (q+1)=t.giveZ kz z1 z2 S0 piece:=by rw[HQ.out];exact HPD.out
     exact⟨⟨q+1,by go_num,by omega,by rw[hp1];exact HX.out.hold,fun _=>by rw[hp1];exact HX.out.le hsr,HB0.out.trans (HB9.out.mono (show wm.heap.size≤wr.heap.size from HB0.out.size))⟩,by simp[intOf]<;>omega⟩
    case neg=>
     obtain⟨k,hk⟩: ∃k,q=k+1:=⟨q - 1,by omega⟩;have hkm:k<m:=by omega
     have c0:wr.cell? ⟨gf,q,none⟩=some (.func (.func 96) #[] #[.pointer (some ⟨b0+1,0,none⟩),.pointer (some ⟨BI k,0,none⟩),.pointer (some ⟨b0,0,none⟩),.pointer (some ⟨BG k,0,none⟩)]):=by rw[hk];exact(hb.cell (p:=⟨gf,k+1,none⟩) hgf).trans (HFK.out k hkm)
     have hrt:=qd HRT6.out hb;have hrp:=qd HRP6.out hb;obtain⟨hri,hrg⟩:=HBX.out k hkm;have hri:=qd hri hb;have hrg:=qd hrg hb;unfold JG at hrg;obtain⟨hu1,hu2,hu3,hu4⟩:=HUV.out k (by have:=HSL.out;omega);have hD1:=hD;rw[hk]at hD1;obtain⟨da,dc,rfl, -, -⟩:=id hD1.slice;change Hold wr (.slice da (t.pathR kz z1 z2 total leaf ss piece k).length dc) (t.pathR kz z1 z2 total leaf ss piece k)at hD1
     have hl:=Zy HV0.out kz z1 z2 total leaf ss piece k;have hG:=qgY t kz z1 z2 (t.pathR kz z1 z2 total leaf ss piece k) total ht (qw t total leaf (k+1)) _ (Yn ss k) b0 (b0+1) (BI k) (BG k) bu ou k ss.length uc leaf (UU k) (VV k) (.slice da (t.pathR kz z1 z2 total leaf ss piece k).length dc) wr (HTW.out.below hb) (HSPK.out (k+1) (by omega)) hD1 hl.2 hl.1 HI12.out hrt hrp hri hrg (by have:=HSL.out;omega) ((hb.cell (p:=⟨bu,ou+k*2,none⟩) hbu).trans hu1) ((hb.cell (p:=⟨bu,ou+k*2+1,none⟩) hbu).trans hu2) (by have:=hb.size;omega) (hu3.below hb) (hu4.below hb) (HO.out.2 _ (qg8 (by have:=HSL.out;omega))) (HFIT.out.2 k hkm).2.2;have HG:=hid hG;have hsr:b0≤wr.heap.size:=by have:=hb.size;omega
     have HK:=hid hk;clear hD hO hrt hrp hri hrg hu1 hu2 hu3 hu4 hl hD1 hG hk;have HB0:=hid hb;clear hb;go_wp2_with fail
     refine HG.out.mono ?_;rintro e w9 ⟨x,rfl,hx,hb9⟩;have HX:=hid hx;have HB9:=hid hb9;clear hx hb9;go_wp2_with fail
     have hp1:qdr t kz z1 z2 total leaf ss piece (q+1)=t.giveZ kz z1 z2 (qw t total leaf (k+1)) (qeK (Yn ss k) (t.pathR kz z1 z2 total leaf ss piece k)):=by rw[HK.out];rfl
     exact⟨⟨q+1,by go_num,by omega,by rw[hp1];exact HX.out.hold,fun _=>by rw[hp1];exact HX.out.le hsr,HB0.out.trans (HB9.out.mono (show wm.heap.size≤wr.heap.size from HB0.out.size))⟩,by simp[intOf]<;>omega⟩
   obtain rfl:q=m+1:=by omega
   have HX:=hid (hO (by omega));clear hD hO hb;go_wp2_with fail
   go_ret2
   exact⟨_,_,rfl,by rw[hb0];exact(HSAY.out _ _ _).2 (.inr (.inr ⟨HE.out,⟨HLEN.out,HFIT.out⟩,rfl,HX.out⟩)),by rw[hb0];exact HB.out⟩
end Go.Proofs.YtahenngmaoellaaGreat
