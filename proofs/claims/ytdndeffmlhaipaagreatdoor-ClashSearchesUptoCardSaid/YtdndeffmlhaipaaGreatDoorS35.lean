/- A node's call, by the reference's tree. No condition. -/
import Derived.Test.YtdndeffmlhaipaaGreatDoorS30
import Derived.Test.YtdndeffmlhaipaaGreatDoorS34
import Derived.Test.YtdndeffmlhaipaaGreatDoorS31
set_option linter.all false
set_option maxRecDepth 100000
set_option maxHeartbeats 8000000
namespace Go.Proofs.YtdndeffmlhaipaaGreatDoor
open Go.ChangeShapes Go.WideShapes Go.ChangeAt Go.RowKit Go.Joins Go.Shelf Go.Maps
open Go.Lib (hid)
attribute [local go_sem] Oper.semAt_some
theorem J1 {big x0:Bool}{v:Nat→Nat}{i:Nat}(hi:2*sB big≤i): ∀k,k≤9→qm (Qo big x0 v k) i=0
 | 0,_=>Zv big x0 v i
 | k+1,h=>by
  have e: ∀j,1≤j→j≤9→atB big j+szB big j≤2*sB big:=fun j a b=>by
   rcases(show j=1∨j=2∨j=3∨j=4∨j=5∨j=6∨j=7∨j=8∨j=9 by omega)with rfl|rfl|rfl|rfl|rfl|rfl|rfl|rfl|rfl<;>cases big<;>decide
  have:=e (k+1) (by omega) h
  rw[Ql big x0 v h i,if_neg (fun h2=>by omega)];exact J1 hi k (by omega)
theorem JD {b:Nat}{W W':World}{z:List Int}{s:Value}(h:SideIs b W z s)(hb:Below W.heap.size W W'):SideIs b W' z s:=by
 rcases h with h|⟨h1,h2⟩
 ·exact .inl h
 ·exact .inr ⟨h1,qf h2 (fun g _ g2=>hb.block g g2)⟩
theorem qbP {b:Nat}{W:World}{z:List Int}{s:Value}(h:SideIs b W z s)(hz: ∀a∈z,0≤a∧a≤255): ∃z',Hold W s z'∧z'.length≤z.length∧(z'=z∨z'=[]∧ ∀a∈z,a=0):=by
 rcases h with⟨rfl,h⟩|⟨-,h⟩
 ·exact⟨[],Hold.nil W,Nat.zero_le _,.inr ⟨rfl,h⟩⟩
 ·exact⟨z,Qd h hz,Nat.le_refl _,.inl rfl⟩
theorem qeh {z:List Int}(h: ∀a∈z,a=0)(i:Nat):qm z i=0:=by
 unfold qm;rw[Lg]
 cases e:z[i]? with
 | none=>rfl
 | some a=>exact h a (List.mem_of_getElem? e)
theorem qaF {b z:List Int}{p:Nat}(h:p+z.length≤b.length)(hz: ∀a∈z,a=0)(hb: ∀i,p≤i→i<p+z.length→qm b i=0)(i:Nat):qm (qU b p z) i=qm b i:=by
 rw[yK h];split
 ·rename_i h2;rw[qeh hz,hb i h2.1 h2.2]
 ·rfl
theorem qfX {a b:List Int}(hl:a.length=b.length)(h: ∀i,qm a i=qm b i):a=b:=by
 refine List.ext_getElem hl fun i h1 h2=>?_
 have:=h i
 unfold qm at this;simpa [Lg,h1,h2] using this
theorem qeF {big:Bool}{v:Nat→Nat}{z1 z2 y1 y2:List Int}(h1:z1.length≤sB big)(h2:z2.length≤sB big)(e1:y1=z1∨y1=[]∧ ∀a∈z1,a=0)(e2:y2=z2∨y2=[]∧ ∀a∈z2,a=0):QH big v y1 y2=QH big v z1 z2:=by
 have hm:4*sB big=mB big:=by cases big<;>decide
 have he:=Qz big (v 7==0) v 9 (by omega);have hy1:y1.length≤sB big:=by rcases e1 with rfl|⟨rfl, -⟩<;>simp[h1]
 have hy2:y2.length≤sB big:=by rcases e2 with rfl|⟨rfl, -⟩<;>simp[h2]
 refine qfX (by rw[QV hy1 hy2,QV h1 h2]) fun i=>?_
 have a1: ∀i,qm (qU (Qo big (v 7==0) v 9) (2*sB big) y1) i=qm (qU (Qo big (v 7==0) v 9) (2*sB big) z1) i:=fun i=>by
  rcases e1 with rfl|⟨rfl,h⟩
  ·rfl
  ·rw[Yi,qaF (by omega) h fun j hj _=>J1 hj 9 (by omega)]
 have l1: ∀y:List Int,y.length≤sB big→(qU (Qo big (v 7==0) v 9) (2*sB big) y).length=mB big:=fun y hy=>by rw[qX (by omega),he]
 unfold QH;rcases e2 with rfl|⟨rfl,h⟩
 ·have m1:=l1 _ hy1;have m2:=l1 _ h1;rw[yK (b:=qU (Qo big (v 7==0) v 9) (2*sB big) y1) (by omega),yK (b:=qU (Qo big (v 7==0) v 9) (2*sB big) z1) (by omega),a1]
 ·rw[Yi,a1,qaF (by rw[l1 _ h1];omega) h fun j hj hj2=>?_];rw[yK (by omega),if_neg (by omega)];exact J1 (by omega) 9 (by omega)
theorem qar (big:Bool)(v:Nat→Nat)(z1 z2:List Int)(sa pe:Value)(b:Nat)(w:World)(hP:ParOk big v)(h1:SideIs b w z1 sa)(h2:SideIs b w z2 pe)(hz1: ∀a∈z1,0≤a∧a≤255)(hz2: ∀a∈z2,0≤a∧a≤255)(hl1:z1.length≤sB big)(hl2:z2.length≤sB big):
  Calls Tryz.prog 80 #[.int .i64 (kB big),parN v sa pe] w fun e w'=>(∃r,e= .returned (.tuple #[r,.int .i64 0])∧w'.ownsRow w.heap.size 5 1 r (mB big) ((QH big v z1 z2).map qo))∧Below w.heap.size w w':=by
 obtain⟨y1,k1,m1,e1⟩:=qbP h1 hz1;obtain⟨y2,k2,m2,e2⟩:=qbP h2 hz2;rw[←qeF hl1 hl2 e1 e2]
 cases big
 ·exact zt v y1 y2 sa pe w hP k1 k2 (Nat.le_trans m1 hl1) (Nat.le_trans m2 hl2)
 ·exact zQ v y1 y2 sa pe w hP k1 k2 (Nat.le_trans m1 hl1) (Nat.le_trans m2 hl2)
def qbw (row:Nat)(kv:Value):Value:=if row=0 then kv else .slice none 0 0
theorem zN (t:TreeV)(total:Nat)(h:t.err total=0)(hl:0≤t.l∧t.l≤4294967295)(ht:(total:Int)≤18446744073709551615)(z1 z2:List Int)(row at_:Nat)(hr:row≤255)(ha:at_<281474976710656)(hth:t.there total row at_)(S:SpotV)(hS:t.spot total row at_=S)(da:Option Addr)(dn dc:Nat)(w:World)
  (h1:Hold w (.slice t.sa t.sl t.sc) z1) (h2:Hold w (.slice t.pa t.pl t.pc) z2):
  Calls Tryz.prog 62 #[t.val,.int .u64 total,.int .i64 (row:Nat),.int .u64 (at_:Nat),.slice da dn dc] w fun e w'=> ∃bv,e= .returned (.agg (yw t.k bv (qbw row (.slice t.ka t.kl t.kc)) S.last (t.outN S.root) (.slice da dn dc)))∧
   w'.ownsRow w.heap.size 5 1 bv (mB t.big) ((t.blk z1 z2 row at_).map qo)∧Below w.heap.size w w':=by
 obtain⟨b0,hb0⟩:=Ex w.heap.size;have h0:=(yl hl h).2.2.2;have hz1:z1.length=t.sl:=by obtain⟨a,c,e, -, -⟩:=h1.slice;simp only[Value.slice.injEq]at e;exact e.2.1.symm
 have hz2:z2.length=t.pl:=by obtain⟨a,c,e, -, -⟩:=h2.slice;simp only[Value.slice.injEq]at e;exact e.2.1.symm
 have hvf:=qq h0;have hmb:=yU h0;have hs16:sB t.big≤16:=by cases t.big<;>decide
 have HSP:=hid (fun(W:World)=>zO t hl total ht row at_ W);have hsR:t.spotR total row at_=S:=by unfold TreeV.spotR;rw[if_pos ⟨h,hth⟩];exact hS
 have hsE:t.spotE total row at_=0:=by unfold TreeV.spotE;rw[if_neg (by simp[h]),if_pos hth]
 rw[hsR,hsE]at HSP;obtain⟨q0,q1,q2,q3,q4,q5⟩:=S;unfold SpotV.val at HSP;simp only at HSP
 have HPA:=hid (fun(W:World) (hb:Below b0 w W)=>qbi t total row at_ HSP W (hid (h1.below (hb0▸hb)).holds8) (hid (h2.below (hb0▸hb)).holds8) (hid h1.1) (hid h2.1) (hid (by omega)) (hid (by omega)));have HEN:=hid (fun(W:World) (b:Nat) (s p:Value) (hs1:SideIs b W z1 s) (hs2:SideIs b W z2 p)=>qar t.big (t.vN row at_) z1 z2 s p b W (Zd h0 hl hr ha) hs1 hs2 h1.1 h2.1 (by omega) (by omega));simp only[TreeV.parN h0 hl,Yy h0]at HEN;have HB:=hid (show t.blk z1 z2 row at_=QH t.big (t.vN row at_) z1 z2 from rfl);generalize t.blk z1 z2 row at_=BL at*;obtain⟨k,d,f,p,l,i,ka,kl,kc,sa,sl,sc,pa,pl,pc⟩:=t;unfold TreeV.val at*;unfold qc7 at HPA;simp only at*
 clear hvf hmb h h0 hl h1 h2 hth hS hsR hsE hs16 hr ha;go_enter Tryz.func62,Tryz.ntmps62
 go_upto_region 1 with(fail)
 have hrT:((w.alloc (.cells #[.int .i64 k,.int .i64 d,.int .i64 f,.int .i64 p,.int .u32 l,.int .i64 i,.slice ka kl kc,.slice sa sl sc,.slice pa pl pc] 26)).alloc (.cells #[.int .i64 0,.slice none 0 0,.slice none 0 0,.bool false,.int .i64 0,.slice none 0 0] 40)).heap[b0]? =some (.cells #[.int .i64 k,.int .i64 d,.int .i64 f,.int .i64 p,.int .u32 l,.int .i64 i,.slice ka kl kc,.slice sa sl sc,.slice pa pl pc] 26 (0,0)):=(Bh _ _ _ (by simp;omega)).trans (qc _ _ hb0.symm);have hrC:((w.alloc (.cells #[.int .i64 k,.int .i64 d,.int .i64 f,.int .i64 p,.int .u32 l,.int .i64 i,.slice ka kl kc,.slice sa sl sc,.slice pa pl pc] 26)).alloc (.cells #[.int .i64 0,.slice none 0 0,.slice none 0 0,.bool false,.int .i64 0,.slice none 0 0] 40)).heap[b0+1]? =some (.cells #[.int .i64 0,.slice none 0 0,.slice none 0 0,.bool false,.int .i64 0,.slice none 0 0] 40 (0,0)):=qc _ _ (by simp;omega);have hbA:Below b0 w ((w.alloc (.cells #[.int .i64 k,.int .i64 d,.int .i64 f,.int .i64 p,.int .u32 l,.int .i64 i,.slice ka kl kc,.slice sa sl sc,.slice pa pl pc] 26)).alloc (.cells #[.int .i64 0,.slice none 0 0,.slice none 0 0,.bool false,.int .i64 0,.slice none 0 0] 40)):=by rw[←hb0];exact(Br.alloc Nl _).alloc (by simp) _
 have hsA:((w.alloc (.cells #[.int .i64 k,.int .i64 d,.int .i64 f,.int .i64 p,.int .u32 l,.int .i64 i,.slice ka kl kc,.slice sa sl sc,.slice pa pl pc] 26)).alloc (.cells #[.int .i64 0,.slice none 0 0,.slice none 0 0,.bool false,.int .i64 0,.slice none 0 0] 40)).heap.size=b0+2:=by simp;omega
 generalize ((w.alloc (.cells #[.int .i64 k,.int .i64 d,.int .i64 f,.int .i64 p,.int .u32 l,.int .i64 i,.slice ka kl kc,.slice sa sl sc,.slice pa pl pc] 26)).alloc (.cells #[.int .i64 0,.slice none 0 0,.slice none 0 0,.bool false,.int .i64 0,.slice none 0 0] 40))=wA at*;go_wp2_with ((with_reducible show wpList _ _ _ (Oper.mk _ (Op.load 26 _) _ _ _ _::_) _ _);refine wpList_load_row rfl 26 _ rfl b0 rfl _ _ _ _ hrT Tryz.underlying26 rfl (by kernel_rfl) ?_)
 refine(HSP.out wA).mono ?_;rintro e w1 ⟨rfl,hb1⟩;have hrT1:=qe hrT hb1;have hrC1:=qe hrC hb1;have hB1:Below b0 w w1:=hbA.trans (hb1.mono (by omega));have hs1:=hb1.size;have HBA:=hid hB1;have HRT:=hid hrT1;have HRC:=hid hrC1;clear hb1 hrT hrC hbA hrT1 hrC1 hB1;go_upto_region 2 with(first|((with_reducible show wpList _ _ _ (Oper.mk none (Op.store 118 _ _) _ _ _ _::_) _ _);refine wpList_store_row rfl 118 _ _ rfl w1.heap.size #[.int .i64 q0,.int .u64 q1,.int .u64 q2,.int .u64 q3,.bool q4,.bool q5] rfl rfl 118 _ (Wn _ _) (by kernel_rfl) rfl (by simp[Value.oneCell']) ?_))
 refine qj ?_;intro W hW;obtain⟨b2,hb2⟩:=Ex w1.heap.size;have hrS:W.heap[b2]? =some (.cells #[.int .i64 q0,.int .u64 q1,.int .u64 q2,.int .u64 q3,.bool q4,.bool q5] 118 (0,0)):=by rw[hW,←hb2];exact setRow_heap _ _ _ _ _ _ (Wn _ _)
 have hbW:Below b2 w1 W:=by rw[hW,←hb2];exact below_setRow (Br.alloc Nl _) Nl _
 have hbw:Below b0 w W:=HBA.out.trans (hbW.mono (by omega));have hrT:=(hbW.block b0 (by omega)).trans HRT.out;have hrC:=(hbW.block (b0+1) (by omega)).trans HRC.out;have hl2:b0+1<b2:=by omega
 have hWs:b2<W.heap.size:=(Ai hrS).1;rw[hb2];have HHR:=hid hb2;clear hW hbW HBA HRT HRC hsA hs1 hb2;go_wp2_with ((with_reducible show wpList _ _ _ (Oper.mk _ (Op.load 26 _) _ _ _ _::_) _ _);refine wpList_load_row rfl 26 _ rfl b0 rfl _ _ _ _ hrT Tryz.underlying26 rfl (by kernel_rfl) ?_)
 refine(HPA.out W hbw).mono ?_;rintro e w2 ⟨sv,pv,rfl,hsv,hpv,hb2⟩;have hrT2:=qe hrT hb2;have hrC2:=qe hrC hb2;have hrS2:=qe hrS hb2;have hB2:Below b0 w w2:=hbw.trans (hb2.mono (by omega));have hs2:=hb2.size;have HBA:=hid hB2;have HRT:=hid hrT2;have HRC:=hid hrC2;have HRS:=hid hrS2;have HSV:=hid hsv;have HPV:=hid hpv;obtain⟨sv1,sv2,sv3,rfl⟩: ∃a n c,sv= .slice a n c:=by
  rcases hsv with⟨rfl, -⟩|⟨-,ho⟩
  ·exact⟨_,_,_,rfl⟩
  ·exact qp ho
 obtain⟨pv1,pv2,pv3,rfl⟩: ∃a n c,pv= .slice a n c:=by
  rcases hpv with⟨rfl, -⟩|⟨-,ho⟩
  ·exact⟨_,_,_,rfl⟩
  ·exact qp ho
 have hs2':b2<w2.heap.size:=by omega
 clear hb2 hrT hrC hrS hrT2 hrC2 hrS2 hB2 hbw HPA HSP hsv hpv HHR;go_upto_region 3 with(first|((with_reducible show wpList _ _ _ (Oper.mk none (Op.store 72 _ _) _ _ _ _::_) _ _);refine wpList_store_row rfl 72 _ _ rfl w2.heap.size #[.int .i64 d,.int .i64 (kl:Nat),.int .i64 f,.int .i64 p,.int .u32 l,.int .u64 (at_:Nat),.int .u32 0,.int .i64 (row:Nat),.int .i64 i,.slice sv1 sv2 sv3,.slice pv1 pv2 pv3] rfl rfl 72 _ (Wn _ _) (by kernel_rfl) rfl (by simp[Value.oneCell']) ?_))
 refine qj ?_;intro V hV;obtain⟨b3,hb3⟩:=Ex w2.heap.size;have hrP:V.heap[b3]? =some (.cells #[.int .i64 d,.int .i64 (kl:Nat),.int .i64 f,.int .i64 p,.int .u32 l,.int .u64 (at_:Nat),.int .u32 0,.int .i64 (row:Nat),.int .i64 i,.slice sv1 sv2 sv3,.slice pv1 pv2 pv3] 72 (0,0)):=by rw[hV,←hb3];exact setRow_heap _ _ _ _ _ _ (Wn _ _)
 have hbV:Below b3 w2 V:=by rw[hV,←hb3];exact below_setRow (Br.alloc Nl _) Nl _
 have HBV:=hid (show Below b0 w V from HBA.out.trans (hbV.mono (by omega)));have hrT:=(hbV.block b0 (by omega)).trans HRT.out;have hrC:=(hbV.block (b0+1) (by omega)).trans HRC.out;have hrS:=(hbV.block b2 (by omega)).trans HRS.out;have HEV:=hid (HEN.out V W.heap.size (.slice sv1 sv2 sv3) (.slice pv1 pv2 pv3) (JD HSV.out (hb3▸hbV)) (JD HPV.out (hb3▸hbV)));have hl3:b2<b3:=by omega
 have hVs:b3<V.heap.size:=(Ai hrP).1;have hVs0:b0<V.heap.size:=by omega
 rw[hb3];have c0:V.cell? ⟨b0,0,none⟩=some (.int .i64 k):=qa hrT 0;have HHR:=hid hb3;clear hV hbV HBA HRT HRC HRS hs2 hb3 HEN HSV HPV hs2';go_wp2_with ((with_reducible show wpList _ _ _ (Oper.mk _ (Op.load 72 _) _ _ _ _::_) _ _);refine wpList_load_row rfl 72 _ rfl b3 rfl _ _ _ _ hrP Tryz.underlying72 rfl (by kernel_rfl) ?_)
 refine HEV.out.mono ?_;rintro e w3 ⟨⟨bv,rfl,hbo⟩,hb3⟩;obtain⟨a5,n5,k5,rfl⟩:=qp hbo;have hrT3:=qe hrT hb3;have HRT:=hid hrT3;have HRC:=hid (qe hrC hb3);have hrS3:=qe hrS hb3;have HRS:=hid hrS3;have hs3:=hb3.size;have HBO:=hid (ownsRow_le hbo (show b0≤V.heap.size by omega));have HB3:=hid (show Below b0 w w3 from HBV.out.trans (hb3.mono (by omega)));have c0:w3.cell? ⟨b0,0,none⟩=some (.int .i64 k):=qa hrT3 0;have c5:w3.cell? ⟨b0,5,none⟩=some (.int .i64 i):=qa hrT3 5;have d4:w3.cell? ⟨b2,4,none⟩=some (.bool q4):=qa hrS3 4;have hb0w:b0+1<w3.heap.size∧b0<w3.heap.size∧b2<w3.heap.size:=by omega
 clear hb3 hbo hrT hrC hrS hrP hrT3 hrS3 HEV HBV hs3 HHR hVs0 hVs;go_upto_region 5 with(fail)
 refine qj ?_;intro U hU;obtain⟨b4,hb4⟩:=Ex w3.heap.size;have hrV:U.heap[b4]? =some (.cells #[.int .i64 k,.slice a5 n5 k5,.slice none 0 0,.bool q4,.int .i64 i,.slice da dn dc] 40 (0,0)):=by rw[hU,←hb4];exact Wn _ _
 have hbU:Below b4 w3 U:=by rw[hU,←hb4];exact Br.alloc Nl _
 rw[hb4];have HRV:=hid hrV;have HRT4:=hid ((hbU.block b0 (by omega)).trans HRT.out);have HRC4:=hid ((hbU.block (b0+1) (by omega)).trans HRC.out);have HRS4:=hid ((hbU.block b2 (by omega)).trans HRS.out);have HBU:=hid (show Below b0 w U from HB3.out.trans (hbU.mono (by omega)));have HBO4:=hid (qf HBO.out (fun g _ g2=>hbU.block g (by omega)));have hsU:=(Ai hrV).1;have hb04:b0+1<b4∧b0<U.heap.size∧b0+1<U.heap.size∧b2<b4∧b2<U.heap.size:=by omega
 have c1:U.cell? ⟨b0,1,none⟩=some (.int .i64 d):=qa HRT4.out 1;have c4:U.cell? ⟨b4,4,none⟩=some (.int .i64 i):=qa HRV.out 4;have d5:U.cell? ⟨b2,5,none⟩=some (.bool q5):=qa HRS4.out 5;have f4:=frozen_of_row U b4 4 _ _ HRV.out;clear hU hb4 hbU HRT HRC HRS HB3 HBO c0 c5 d4 hb0w hrV;have hfin: ∀(X:World),X.heap[b0+1]? =some (.cells #[.int .i64 0,.slice none 0 0,.slice none 0 0,.bool false,.int .i64 0,.slice none 0 0] 40 (0,0))→True:=fun _ _=>trivial
 clear hfin;obtain⟨O,hO⟩:=Ex ((if q5 then d else i));have hmid: ∃U6:World,U6=(if q5 then U.setCell ⟨b4,4,none⟩ (.int .i64 d) else U)∧U6.heap[b4]? =some (.cells #[.int .i64 k,.slice a5 n5 k5,.slice none 0 0,.bool q4,.int .i64 O,.slice da dn dc] 40 (0,0))∧U6.heap[b0]? =some (.cells #[.int .i64 k,.int .i64 d,.int .i64 f,.int .i64 p,.int .u32 l,.int .i64 i,.slice ka kl kc,.slice sa sl sc,.slice pa pl pc] 26 (0,0))∧
   U6.heap[b0+1]? =some (.cells #[.int .i64 0,.slice none 0 0,.slice none 0 0,.bool false,.int .i64 0,.slice none 0 0] 40 (0,0))∧Below b0 w U6∧U6.ownsRow b0 5 1 (.slice a5 n5 k5) (mB (TreeV.big ⟨k,d,f,p,l,i,ka,kl,kc,sa,sl,sc,pa,pl,pc⟩)) (BL.map qo):=by
  rw[HB.out]
  cases q5
  ·simp only[Bool.false_eq_true,if_false]at hO⊢;subst hO;exact⟨U,rfl,HRV.out,HRT4.out,HRC4.out,HBU.out,HBO4.out⟩
  ·simp only[if_true]at hO⊢;subst hO;exact⟨_,rfl,heap_setCell_same U b4 4 _ _ (.int .i64 d) HRV.out,(heap_setCell_other U ⟨b4,4,none⟩ b0 (.int .i64 d) (show b0≠b4 by omega)).trans HRT4.out,(heap_setCell_other U ⟨b4,4,none⟩ (b0+1) (.int .i64 d) (show b0+1≠b4 by omega)).trans HRC4.out,HBU.out.setCell (show b0≤b4 by omega) _,Qn HBO4.out HRV.out 4 (.int .i64 d) (by decide)⟩
 obtain⟨U6,hU6,e1,e2,e3,e4,e5⟩:=hmid;have G1:=hid e1;have G2:=hid e2;have G3:=hid e3;have G4:=hid e4;have G5:=hid e5;have hu6:b4<U6.heap.size∧b0<U6.heap.size∧b0+1<U6.heap.size:=by
  have:=(Ai e1).1
  omega
 have HOUT:Hid (TreeV.outN ⟨k,d,f,p,l,i,ka,kl,kc,sa,sl,sc,pa,pl,pc⟩ q5=O):=hid hO;have HU6:=hid hU6;clear hU6 e1 e2 e3 e4 e5 hO;have hkw:qbw row (.slice ka kl kc)=if row=0 then .slice ka kl kc else .slice none 0 0:=rfl
 have HKW:=hid hkw;clear hkw
 cases q5
 all_goals go_upto_region 7 with(fail)
 all_goals first|rw[show U=U6 from HU6.out.symm]|rw[show U.setCell ⟨b4,4,none⟩ (.int .i64 d)=U6 from HU6.out.symm]
 all_goals clear c1 c4 d5 f4 HRV HRT4 HRC4 HRS4 HBU HBO4 HU6
 all_goals by_cases hrow:row=0
 all_goals first
 | (
  have hq:((row:Int)==0)=false:=by rw[beq_eq_false_iff_ne];omega
  have hkl:qbw row (.slice ka kl kc)= .slice none 0 0:=if_neg hrow;go_wp2_with (first|((with_reducible show wpList _ _ _ (Oper.mk _ (Op.load 40 _) _ _ _ _::_) _ _);refine wpList_load_row rfl 40 _ rfl b4 rfl _ _ _ _ G1.out Tryz.underlying40 rfl (by kernel_rfl) ?_)|((with_reducible show wpList _ _ _ (Oper.mk none (Op.store 40 _ _) _ _ _ _::_) _ _);refine wpList_store_row rfl 40 _ _ rfl (b0+1) #[.int .i64 k,.slice a5 n5 k5,.slice none 0 0,.bool q4,.int .i64 O,.slice da dn dc] rfl rfl 40 _ G3.out (by kernel_rfl) rfl (by simp[Value.oneCell']) ?_))
  exact Bp (results_cell_row rfl _ _ _ _ _ _ _ rfl (setRow_heap _ _ _ _ _ _ G3.out) Tryz.underlying40 rfl (by kernel_rfl)) rfl (by(try rw[hb0]);rw[HOUT.out];(try rw[hkl]);exact⟨_,rfl,qQ G5.out G3.out (by decide),below_setRow G4.out (by omega) _⟩))
 | (
  subst hrow;have hkl:qbw 0 (.slice ka kl kc)= .slice ka kl kc:=rfl;have c6:U6.cell? ⟨b0,6,none⟩=some (.slice ka kl kc):=qa G2.out 6;have c2:U6.cell? ⟨b4,2,none⟩=some (.slice none 0 0):=qa G1.out 2;have f2:=frozen_of_row U6 b4 2 _ _ G1.out;go_upto_region 9 with(fail)
  have K1:=hid (heap_setCell_same U6 b4 2 _ _ (.slice ka kl kc) G1.out);have K3:=hid ((heap_setCell_other U6 ⟨b4,2,none⟩ (b0+1) (.slice ka kl kc) (show b0+1≠b4 by omega)).trans G3.out);have K4:=hid (show Below b0 w (U6.setCell ⟨b4,2,none⟩ (.slice ka kl kc)) from G4.out.setCell (show b0≤b4 by omega) _);have K5:=hid (Qn G5.out G1.out 2 (.slice ka kl kc) (by decide));clear c6 c2 f2;generalize U6.setCell ⟨b4,2,none⟩ (.slice ka kl kc)=U7 at*;go_wp2_with (first|((with_reducible show wpList _ _ _ (Oper.mk _ (Op.load 40 _) _ _ _ _::_) _ _);refine wpList_load_row rfl 40 _ rfl b4 rfl _ _ _ _ K1.out Tryz.underlying40 rfl (by kernel_rfl) ?_)|((with_reducible show wpList _ _ _ (Oper.mk none (Op.store 40 _ _) _ _ _ _::_) _ _);refine wpList_store_row rfl 40 _ _ rfl (b0+1) #[.int .i64 k,.slice a5 n5 k5,.slice ka kl kc,.bool q4,.int .i64 O,.slice da dn dc] rfl rfl 40 _ K3.out (by kernel_rfl) rfl (by simp[Value.oneCell']) ?_))
  exact Bp (results_cell_row rfl _ _ _ _ _ _ _ rfl (setRow_heap _ _ _ _ _ _ K3.out) Tryz.underlying40 rfl (by kernel_rfl)) rfl (by(try rw[hb0]);rw[HOUT.out];(try rw[hkl]);exact⟨_,rfl,qQ K5.out K3.out (by decide),below_setRow K4.out (by omega) _⟩))
end Go.Proofs.YtdndeffmlhaipaaGreatDoor
