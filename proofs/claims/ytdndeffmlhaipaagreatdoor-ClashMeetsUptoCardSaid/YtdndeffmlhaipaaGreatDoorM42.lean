/- The iterator over a tree's levels from the root down. No condition. -/
import Derived.Test.YtdndeffmlhaipaaGreatDoorM40
import Derived.Test.YtdndeffmlhaipaaGreatDoorM36
import Derived.Test.YtdndeffmlhaipaaGreatDoorM41
import Derived.RangeFuncCalls
import Derived.RangeFuncBound
import Derived.RangeFuncNested
import Derived.Lib.MinMax
import Derived.WalkLawsBesides
import Derived.RecoverIn
set_option linter.all false
set_option maxRecDepth 100000
set_option maxHeartbeats 8000000
namespace Go.Proofs.YtdndeffmlhaipaaGreatDoor
open Go.ChangeShapes Go.WideShapes Go.ChangeAt Go.RowKit Go.Joins Go.Shelf Go.Maps
open Go.Lib (hid)
attribute [local go_sem] Oper.semAt_some
def TreeV.preC (t:TreeV)(kz z1 z2 zs:List Int)(k:Nat):Nat:=(t.allC kz z1 z2 zs k).flatten.length
theorem TreeV.preC_succ (t:TreeV)(kz z1 z2 zs:List Int)(k:Nat):t.preC kz z1 z2 zs (k+1)=t.preC kz z1 z2 zs k+(t.callsR kz z1 z2 zs k).length:=by
 unfold TreeV.preC;rw[TreeV.allC_succ,List.flatten_append,List.length_append,List.flatten_singleton]
theorem Zd {t:TreeV}(h:t.validE=0)(hl:0≤t.l∧t.l≤4294967295)(kz z1 z2 zs:List Int): ∀k,t.preC kz z1 z2 zs k≤k*(zs.length+1)
 | 0=>by unfold TreeV.preC TreeV.allC;simp
 | k+1=>by
  have:=(YH h hl kz z1 z2 zs k).2
  have:=Zd h hl kz z1 z2 zs k
  rw[TreeV.preC_succ,Nat.add_mul];omega
theorem TreeV.preC_mono (t:TreeV)(kz z1 z2 zs:List Int){k n:Nat}(h:k≤n):t.preC kz z1 z2 zs k≤t.preC kz z1 z2 zs n:=by
 induction n with
 | zero=>rw[show k=0 by omega];exact Nat.le_refl _
 | succ n ih=>
  by_cases e:k=n+1
  ·rw[e];exact Nat.le_refl _
  ·rw[TreeV.preC_succ];have:=ih (by omega);omega
theorem qaS {s:Nat}{W:World}{g:Nat}{t:TreeV}{kz z1 z2 zs:List Int}{k r:Nat}(h:CallsL s W g 0 (t.allC kz z1 z2 zs k).flatten)(hr:r<k):CallsL s W g (t.preC kz z1 z2 zs r*6) (t.callsR kz z1 z2 zs r):=by
 have key: ∀n,CallsL s W g 0 (t.allC kz z1 z2 zs (r+1+n)).flatten→CallsL s W g 0 (t.allC kz z1 z2 zs (r+1)).flatten:=by
  intro n;induction n with
  | zero=>exact fun h=>h
  | succ n ih=>
   intro h;refine ih ?_;rw[show r+1+(n+1)=r+1+n+1 by omega,TreeV.allC_succ,List.flatten_append]at h;exact h.left
 have h1:=key (k - (r+1)) (by rw[show r+1+(k - (r+1))=k by omega];exact h);rw[TreeV.allC_succ,List.flatten_append,List.flatten_singleton]at h1;have h2:=h1.right;rw[Nat.zero_add]at h2;exact h2
theorem Ji (t:TreeV)(kz z1 z2 zs:List Int)(hn:zs.length≤4194304)(da:Option Addr)(dc:Nat)(s l bT bD m0 m:Nat)(J:Nat→World→Prop)(X:List PanicEntry→World→Prop)(W:World)(hs:W.heap.size≤s)(hm:(t.rowsOf zs.length).length - 1=m)(hTO:TreeOk t kz z1 z2 W)(hz:Hold W (.slice da zs.length dc) zs)
  (h1:W.heap[bT]? =some (.cells #[.int .i64 t.k,.int .i64 t.d,.int .i64 t.f,.int .i64 t.p,.int .u32 t.l,.int .i64 t.i,.slice t.ka t.kl t.kc,.slice t.sa t.sl t.sc,.slice t.pa t.pl t.pc] 26 (0,0))) (h2:W.heap[bD]? =some (.cells #[.slice da zs.length dc] 24 (0,0)))
  (hJb: ∀W',Below W.heap.size W W'→J 0 W')
  (hY: ∀d V v,d≤m→J d V→LevH s V v (t.callsR kz z1 z2 zs (m - d))→YieldAt Fence.wide m0 Tryz.prog l #[.int .i64 (m - d:Nat),v] V fun e V'=>(e= .returned (.bool true)∧J (d+1) V'∧KC s V V')∨ ∃ch,e= .panicked ch∧X ch V'):
  Calls Tryz.prog 85 #[.func (.yield l) #[] #[],.pointer (some ⟨bT,0,none⟩),.pointer (some ⟨bD,0,none⟩)] W fun e W'=>(e= .returned (.tuple #[])∧J (m+1) W')∨ ∃ch,e= .panicked ch∧X ch W':=by
 obtain⟨b0,hb0⟩:=Ex W.heap.size;have hv:=hTO.v;have her:=qK hv hn;have hR:=qM her;have hmost:=hR.most;have hlen:=hR.len;have hpn:t.pn≤255:=by have:=(qd hv).2.2.2.2.2.2.2.1;unfold TreeV.pn;omega
 have hLF:=qz hv hTO.l kz z1 z2 zs;have hTP:=yY her kz z1 z2 (Qr hv hTO.l kz z1 z2 zs) hLF.2.2;have hca:=qbw t kz z1 z2 zs (.slice da zs.length dc) W hTO hz hn;have HCA:=hid (hca.mono (R':=fun e w'=> ∃u,e= .returned (.tuple #[u,.int .i64 0])∧CallsO W W.heap.size w' u (t.allC kz z1 z2 zs (m+1)).flatten∧Below W.heap.size W w') (by
  rintro e w' ⟨u,rfl,⟨R,hR2,ho⟩,hb⟩
  have e2:=yM hR2 hTP;refine⟨u,rfl,?_,hb⟩;rw[TreeV.allC_succ,List.flatten_append,List.flatten_singleton,←hm,←e2];exact ho))
 have HSR:=hid (fun V:World=>qc5 t hTO.l zs.length (by omega) her V);have hrows: ∀r,r≤m→(t.callsR kz z1 z2 zs r).length=nth (t.rowsOf zs.length) r:=fun r hr=>by
  have e:=Qh her kz z1 z2 (Qr hv hTO.l kz z1 z2 zs) hLF.2.2 r (by omega);rw[TreeV.lvl_is,TreeV.rowZ_length]at e;unfold TreeV.callsR;rw[qq];exact e
 have HROWS:=hid hrows;have HPRE:=hid (Zd hv hTO.l kz z1 z2 zs);have HC1:=hid (fun r=>(YH hv hTO.l kz z1 z2 zs r).1);have HY:=hid hY;have HJB:=hid hJb;have HS:=hid hs;have hwz:IntKind.u64.wrap (zs.length:Int)=(zs.length:Int):=by rw[IntKind.wrap_u64]<;>omega
 rw[show qT t.fn t.pn (lvs zs.length t.ln)=t.rowsOf zs.length from rfl]at HSR;have hRn:(t.rowsOf zs.length).length=m+1:=by omega
 obtain⟨RS,hRS⟩:=Ex (t.rowsOf zs.length);rw[hRS]at HSR hRn HROWS;have HRN:=hid hRn;have hm255:m≤254:=by omega
 have hbT:bT<W.heap.size:=(Ai h1).1;have hbD:bD<W.heap.size:=(Ai h2).1;have cD:=qa h2 0;have HD:=hid h2;have hzn:(zs.length:Int)≤4194304:=by omega
 clear hv her hR hmost hlen hpn hLF hTP hca hTO hz hY hJb hrows hm hRS hRn h2 hs;unfold TreeV.val at*;go_enter Tryz.func85,Tryz.ntmps85
 go_wp2_with ((with_reducible show wpList _ _ _ (Oper.mk _ (Op.load 26 _) _ _ _ _::_) _ _);refine wpList_load_row rfl 26 _ rfl bT rfl _ _ _ _ h1 Tryz.underlying26 rfl (by kernel_rfl) ?_)
 refine HCA.out.mono ?_;rintro e W1 ⟨u,rfl,hco,hb1⟩;obtain⟨g,cap,rfl,hgc,hgm,hgl,hgL⟩:=qeV hco HS.out (by
  have:=HC1.out 0
  show 0<t.preC kz z1 z2 zs (m+1)
  have h3:=t.preC_mono kz z1 z2 zs (show 0+1≤m+1 by omega);have h4:=t.preC_succ kz z1 z2 zs 0;omega)
 obtain⟨T,hT⟩:=Ex ((t.allC kz z1 z2 zs (m+1)).flatten.length);have HT:=hid (show t.preC kz z1 z2 zs (m+1)=T from hT);rw[hT]at hgc;rw[hT];clear hT;have hr1:=qb h1 hb1;have hd1:=qb HD.out hb1;have cD1:=qa hd1 0;have HB1:=hid hb1;have HGL:=hid hgL;have hs1:=hb1.size;have hbT1:bT<W1.heap.size:=by omega
 have hbD1:bD<W1.heap.size:=by omega
 clear hco hb1 hd1 hgL h1 cD HCA;go_upto_region 1 with(fail)
 go_wp2_with ((with_reducible show wpList _ _ _ (Oper.mk _ (Op.load 26 _) _ _ _ _::_) _ _);refine wpList_load_row rfl 26 _ rfl bT rfl _ _ _ _ hr1 Tryz.underlying26 rfl (by kernel_rfl) ?_)
 refine(HSR.out W1).mono ?_;rintro e W2 ⟨rv,rfl,hro,hb2⟩;obtain⟨gr,capr,rfl, -, -,hgr,hcr⟩:=JQ hro (by rw[HRN.out];omega);obtain⟨cu,hcu⟩:=qaE hro gr rfl;have HCR:=hid (show ∀j,j<RS.length→cu[j]? =some (.int .u64 (nth RS j:Nat)) from fun j hj=>by rw[←qa hcu];exact hcr j hj);have HCU:=hid hcu;have HG2:=hid (HGL.out.kc (KC.of_below hb2));have HJ0:=hid (HJB.out W2 (HB1.out.trans (hb2.mono hs1)));have hs2:=hb2.size;have hgl2:g<W2.heap.size:=by omega
 rw[HRN.out];have hTn:(T:Int)≤1073741824:=by
  have h3:=HPRE.out (m+1);rw[HT.out]at h3;have h4:(m+1)*(zs.length+1)≤255*4194305:=Nat.mul_le_mul (by omega) (by omega);omega
 clear hro hb2 hcr hcu hr1 cD1 HSR HGL HB1 hs1 hs2 hbT1 hbD1;go_wp2_with fail
 go_loopw [4,8] (fun lv i V=> ∃d:Nat,d≤m+1∧i= .int .i64 ((m:Int) - d)∧lv= .slice (some ⟨g,0,none⟩) (t.preC kz z1 z2 zs (m+1 - d)) cap∧J d V∧KC s W2 V) (fun _ i _=>(intOf i+1).toNat)
 case atStart=>exact⟨0,Nat.zero_le _,by go_num,by rw[Nat.sub_zero,HT.out],HJ0.out,KC.refl _ _⟩
 case round=>
  clear HJ0;obtain⟨d,hd,rfl,rfl,hj,hk⟩:=hrel;by_cases hdm:d≤m
  case pos=>
   obtain⟨r,hr⟩:=Ex (m - d);have hri:(m:Int) - d=(r:Nat):=by omega
   rw[hri];have hp1:=t.preC_succ kz z1 z2 zs r;rw[show m+1 - d=r+1 by omega];obtain⟨p0,hp0⟩:=Ex (t.preC kz z1 z2 zs r);obtain⟨p1,hp1e⟩:=Ex (t.preC kz z1 z2 zs (r+1));obtain⟨q,hq⟩:=Ex ((t.callsR kz z1 z2 zs r).length);rw[hp0,hp1e,hq]at hp1;rw[hp1e];have hq1:=HC1.out r;rw[hq]at hq1;have hpT:=t.preC_mono kz z1 z2 zs (show r+1≤m+1 by omega);rw[hp1e,HT.out]at hpT;have hcu2:=hk.2 _ _ _ _ HCU.out (.inr (.inl rfl));have cr:wr.cell? ⟨gr,r,none⟩=some (.int .u64 (q:Nat)):=by
    rw[qa hcu2,HCR.out r (by rw[HRN.out];omega),←HROWS.out r (by omega),hq]
   have hgr2:gr<wr.heap.size:=(Ai hcu2).1;have hlv:LevH s wr (.slice (some ⟨g,p0*6,none⟩) q (cap - p0)) (t.callsR kz z1 z2 zs r):=⟨g,p0*6,cap - p0,by rw[hq],by rw[hq];omega,by omega,Nat.lt_of_lt_of_le hgl2 hk.1,by rw[←hp0];exact qaS (HG2.out.kc hk) (by omega)⟩;have hy:=HY.out d wr _ hdm hj (by rw[hr];exact hlv);rw[hr]at hy;obtain⟨fn,tmps,assign,body,hyr,hyR⟩:=YieldAt.anyDepth (m':=0) rfl hy;have HYR:=hid hyR;have HKC:=hid hk;have HD1:=hid hd;have HDM:=hid hdm;have HRI:=hid hri;have HRM:=hid hr;have HP0:=hid hp0;have hrm:(r:Int)≤m:=by omega
   have hrl:(r:Int)<(m:Int)+1:=by omega
   have hp1i:(p1:Int)=p0+q:=by omega
   clear hy hyR hk hj hlv hcu2 hd hdm hr hp0 hp1e hq hri;go_upto_region 6 with(fail)
   refine(wpIn_wide (n:=1)).1 ?_;gi_wp2_with fail
   refine HYR.out.mono ?_;rintro e V (⟨rfl,hj,hk⟩|⟨ch,rfl,hx⟩)
   case inr=>
    clear HYR hyr cr;go_wp2_with fail
    exact⟨rfl,.inr ⟨ch,rfl,hx⟩⟩
   have HJ:=hid hj;have HK:=hid (HKC.out.trans hk);clear hj hk HYR hyr cr;gi_wp2_with fail
   go_wp2_with fail
   refine⟨⟨d+1,by have:=HDM.out;omega,by have:=HRI.out;go_num,?_,HJ.out,HK.out⟩,by have:=HRI.out;simp[intOf]<;>omega⟩;rw[←HP0.out,show m+1 - (d+1)=r by have:=HRM.out;omega]
  have hde:d=m+1:=by omega
  have hri:(m:Int) - d= -1:=by omega
  rw[hri];rw[hde]at hj;have HJ:=hid hj;clear hj hk hde hri hd hdm;go_wp2_with fail
  go_end0
  exact .inl ⟨rfl,HJ.out⟩
theorem j4 {P:Program}{init:List Oper}{Q:Exit→Act→World→Prop}{ch:List PanicEntry}{a:Act}{w:World}(h:Q (.panic ch) a w):qH P init [] Q (.panic ch) a w:=h
def FoundC (s:Nat)(W:World)(c:Array Value)(a b:CallS)(row i:Nat):Prop:= ∃b1 k1 d1 b2 k2 d2,c= #[.int .i64 a.k,b1,k1,.bool a.la,.int .i64 a.o,d1,.int .i64 b.k,b2,k2,.bool b.la,.int .i64 b.o,d2,.int .i64 (row:Nat),.int .u64 (i:Nat)]∧HoldS s W b1 a.bs∧HoldS s W k1 a.kz∧HoldS s W d1 a.ds∧HoldS s W b2 b.bs∧HoldS s W k2 b.kz∧HoldS s W d2 b.ds
theorem FoundC.kc {s:Nat}{W W':World}{c:Array Value}{a b:CallS}{row i:Nat}(h:FoundC s W c a b row i)(k:KC s W W'):FoundC s W' c a b row i:=by
 obtain⟨b1,k1,d1,b2,k2,d2,e,h1,h2,h3,h4,h5,h6⟩:=h;exact⟨b1,k1,d1,b2,k2,d2,e,h1.kc k,h2.kc k,h3.kc k,h4.kc k,h5.kc k,h6.kc k⟩
def qez (s row:Nat)(r:Option (CallS×CallS×Nat))(e:Ending)(W':World):Prop:=match r with
 | none=>e= .returned (.tuple #[])
 | some (a,b,i)=> ∃c,e= .panicked [{ v:= .iface 68 (.agg c),recovered:=false }]∧FoundC s W' c a b row i
open Classical in
theorem qco {A B:List CallS}{n:Nat}(h:n<A.length)(h2:n<B.length):Qo (A.drop n) (B.drop n) n=if A.getD n .zero=B.getD n .zero then Qo (A.drop (n+1)) (B.drop (n+1)) (n+1) else some (A.getD n .zero,B.getD n .zero,n):=by
 rw[List.drop_eq_getElem_cons h,List.drop_eq_getElem_cons h2];have e1:A.getD n .zero=A[n]:=by rw[Lg,List.getElem?_eq_getElem h];rfl
 have e2:B.getD n .zero=B[n]:=by rw[Lg,List.getElem?_eq_getElem h2];rfl
 rw[e1,e2];rfl
theorem qdx {A B:List CallS}{n:Nat}(h:min A.length B.length≤n):Qo (A.drop n) (B.drop n) n=none:=by
 by_cases h1:A.length≤n
 ·rw[List.drop_eq_nil_of_le h1];rfl
 ·rw[List.drop_eq_nil_of_le (show B.length≤n by omega)]
  cases A.drop n<;>rfl
theorem qeR (s row:Nat)(A B:List CallS)(va vb:Value)(W:World)(hA:LevH s W va A)(hB:LevH s W vb B):
  Calls Tryz.prog 69 #[.int .i64 (row:Nat),va,vb] W fun e W'=>qez s row (Qo A B 0) e W'∧Below W.heap.size W W':=by
 obtain⟨b0,hb0⟩:=Ex W.heap.size;have HA:=hid hA;have HB:=hid hB;obtain⟨ga,oa,ca,rfl,hca,hcam,hga,hLA⟩:=hA;obtain⟨gb,ob,cb,rfl,hcb,hcbm,hgb,hLB⟩:=hB;obtain⟨na,hna⟩:=Ex A.length;obtain⟨nb,hnb⟩:=Ex B.length;rw[hna]at hca;rw[hnb]at hcb;rw[hna,hnb];have HLA:=hid hLA;have HLB:=hid hLB;have HNA:=hid hna;have HNB:=hid hnb;obtain⟨mn,hmn⟩:=Ex (min na nb);have hmi:min (na:Int) (nb:Int)=(mn:Nat):=by omega
 have HMN:=hid hmn;have hma:mn≤na:=by omega
 have hmb:mn≤nb:=by omega
 clear hLA hLB hna hnb hmn;go_enter Tryz.func69,Tryz.ntmps69
 go_wp2_with fail
 go_loopw [12] (fun i V=> ∃k:Nat,i= .int .i64 (k:Nat)∧k≤mn∧Qo (A.drop k) (B.drop k) k=Qo A B 0∧Below b0 W V) (fun i _=>mn - (intOf i).toNat)
 case atStart=>exact⟨0,rfl,Nat.zero_le _,rfl,Below.refl _ _⟩
 case round=>
  obtain⟨k,rfl,hk,hd,hb⟩:=hrel;by_cases hlt:k<mn
  case pos=>
   have hlt2:(k:Int)<(mn:Nat):=by omega
   have hka:(k:Int)<(na:Nat):=by omega
   have hkb:(k:Int)<(nb:Nat):=by omega
   have hcl:KC s W wr:=KC.of_below (hb0▸hb:Below W.heap.size W wr);obtain⟨p1,l1,q1,p2,l2,q2,p3,l3,q3,hc1,u11,u12,u13⟩:=(HLA.out.kc hcl).callS (i:=k) (by rw[HNA.out];omega);obtain⟨s1,j1,t1,s2,j2,t2,s3,j3,t3,hc2,u21,u22,u23⟩:=(HLB.out.kc hcl).callS (i:=k) (by rw[HNB.out];omega);rw[qco (by rw[HNA.out];omega) (by rw[HNB.out];omega)]at hd;obtain⟨x,hx⟩:=Ex (A.getD k .zero);obtain⟨y,hy⟩:=Ex (B.getD k .zero);rw[hx]at hc1 u11 u12 u13 hd;rw[hy]at hc2 u21 u22 u23 hd;have hM1:CallM wr (.agg (qx x.k (.slice p1 l1 q1) (.slice p2 l2 q2) x.la x.o (.slice p3 l3 q3))) x:=⟨_,_,_,rfl,u11.1,u12.1,u13.1⟩;have hM2:CallM wr (.agg (qx y.k (.slice s1 j1 t1) (.slice s2 j2 t2) y.la y.o (.slice s3 j3 t3))) y:=⟨_,_,_,rfl,u21.1,u22.1,u23.1⟩;have HU:=hid (And.intro u11 (And.intro u12 (And.intro u13 (And.intro u21 (And.intro u22 u23)))));have x0:wr.cell? ⟨ga,oa+k*6,none⟩=some (.int .i64 x.k):=hc1 0 (by omega);have x1:wr.cell? ⟨ga,oa+k*6+1,none⟩=some (.slice p1 l1 q1):=hc1 1 (by omega);have x2:wr.cell? ⟨ga,oa+k*6+2,none⟩=some (.slice p2 l2 q2):=hc1 2 (by omega);have x3:wr.cell? ⟨ga,oa+k*6+3,none⟩=some (.bool x.la):=hc1 3 (by omega);have x4:wr.cell? ⟨ga,oa+k*6+4,none⟩=some (.int .i64 x.o):=hc1 4 (by omega);have x5:wr.cell? ⟨ga,oa+k*6+5,none⟩=some (.slice p3 l3 q3):=hc1 5 (by omega);have y0:wr.cell? ⟨gb,ob+k*6,none⟩=some (.int .i64 y.k):=hc2 0 (by omega);have y1:wr.cell? ⟨gb,ob+k*6+1,none⟩=some (.slice s1 j1 t1):=hc2 1 (by omega);have y2:wr.cell? ⟨gb,ob+k*6+2,none⟩=some (.slice s2 j2 t2):=hc2 2 (by omega);have y3:wr.cell? ⟨gb,ob+k*6+3,none⟩=some (.bool y.la):=hc2 3 (by omega);have y4:wr.cell? ⟨gb,ob+k*6+4,none⟩=some (.int .i64 y.o):=hc2 4 (by omega);have y5:wr.cell? ⟨gb,ob+k*6+5,none⟩=some (.slice s3 j3 t3):=hc2 5 (by omega);have hga':ga<wr.heap.size:=by have:=hb.size;omega
   have hgb':gb<wr.heap.size:=by have:=hb.size;omega
   have HD:=hid hd;have HB2:=hid hb;have HM1:=hid hM1;have HM2:=hid hM2;clear hx hy hc1 hc2 hM1 hM2 hd hb hcl u11 u12 u13 u21 u22 u23;go_upto_region 3 with(fail)
   refine qA (n:=8) (w0:=wr) (B:=wr.heap.size) [.v 15 (.slice (some ⟨ga,oa,none⟩) na ca),.v 16 (.int .i64 (k:Nat)),.v 17 (.pointer (some ⟨ga,oa+k*6,none⟩)),.v 18 (.agg (qx x.k (.slice p1 l1 q1) (.slice p2 l2 q2) x.la x.o (.slice p3 l3 q3))),.v 19 (.slice (some ⟨gb,ob,none⟩) nb cb),.v 20 (.int .i64 (k:Nat)),.v 21 (.pointer (some ⟨gb,ob+k*6,none⟩)),.v 22 (.agg (qx y.k (.slice s1 j1 t1) (.slice s2 j2 t2) y.la y.o (.slice s3 j3 t3)))] trivial Br.drew Nl ?_ ?_
   ·repeat' (with_reducible first|exact qt|refine qn ?_ ?_)
    all_goals
     intro AA xx V hA hV hBV hdep D K hK;have a1:=hA.2 1 (by decide);conv at a1=>rhs;whnf
     have a2:=hA.2 2 (by decide);conv at a2=>rhs;whnf
     have a6:=hA.2 6 (by decide);conv at a6=>rhs;whnf
     have x0':=(hV.cell (p:=⟨ga,oa+k*6,none⟩) hga').trans x0;have x1':=(hV.cell (p:=⟨ga,oa+k*6+1,none⟩) hga').trans x1;have x2':=(hV.cell (p:=⟨ga,oa+k*6+2,none⟩) hga').trans x2;have x3':=(hV.cell (p:=⟨ga,oa+k*6+3,none⟩) hga').trans x3;have x4':=(hV.cell (p:=⟨ga,oa+k*6+4,none⟩) hga').trans x4;have x5':=(hV.cell (p:=⟨ga,oa+k*6+5,none⟩) hga').trans x5;have y0':=(hV.cell (p:=⟨gb,ob+k*6,none⟩) hgb').trans y0;have y1':=(hV.cell (p:=⟨gb,ob+k*6+1,none⟩) hgb').trans y1;have y2':=(hV.cell (p:=⟨gb,ob+k*6+2,none⟩) hgb').trans y2;have y3':=(hV.cell (p:=⟨gb,ob+k*6+3,none⟩) hgb').trans y3;have y4':=(hV.cell (p:=⟨gb,ob+k*6+4,none⟩) hgb').trans y4;have y5':=(hV.cell (p:=⟨gb,ob+k*6+5,none⟩) hgb').trans y5;have z1:ga<V.heap.size:=by have:=hV.size;omega
     have z2:gb<V.heap.size:=by have:=hV.size;omega
     simp only[QI,QU]at D;clear hdep hA;go_simp
     exact hK _ _ BR rfl
   intro xx V hV hBV hall;clear hall;refine qh ?_;simp only[Qi,Act.put,Ls];have HM1V:=hid (HM1.out.below hV);have HM2V:=hid (HM2.out.below hV);have HKV:=hid (KC.of_below hV:KC s wr V);have HBV:=hid (HB2.out.trans (hV.mono (by have:=HB2.out.size;omega)));have hUN:=hid (yl x y _ _ V HM1V.out HM2V.out);obtain⟨sb,hsb⟩:=Ex (yB x y);rw[hsb]at hUN;have HSB:=hid hsb;have xv0:=(hV.cell (p:=⟨ga,oa+k*6,none⟩) hga').trans x0;have xv1:=(hV.cell (p:=⟨ga,oa+k*6+1,none⟩) hga').trans x1;have xv2:=(hV.cell (p:=⟨ga,oa+k*6+2,none⟩) hga').trans x2;have xv3:=(hV.cell (p:=⟨ga,oa+k*6+3,none⟩) hga').trans x3;have xv4:=(hV.cell (p:=⟨ga,oa+k*6+4,none⟩) hga').trans x4;have xv5:=(hV.cell (p:=⟨ga,oa+k*6+5,none⟩) hga').trans x5;have yv0:=(hV.cell (p:=⟨gb,ob+k*6,none⟩) hgb').trans y0;have yv1:=(hV.cell (p:=⟨gb,ob+k*6+1,none⟩) hgb').trans y1;have yv2:=(hV.cell (p:=⟨gb,ob+k*6+2,none⟩) hgb').trans y2;have yv3:=(hV.cell (p:=⟨gb,ob+k*6+3,none⟩) hgb').trans y3;have yv4:=(hV.cell (p:=⟨gb,ob+k*6+4,none⟩) hgb').trans y4;have yv5:=(hV.cell (p:=⟨gb,ob+k*6+5,none⟩) hgb').trans y5;have z1:ga<V.heap.size:=by have:=hV.size;omega
   have z2:gb<V.heap.size:=by have:=hV.size;omega
   have hbv:b0≤V.heap.size:=by have:=HBV.out.size;omega
   clear hV hBV HM1 HM2 HB2 hsb x0 x1 x2 x3 x4 x5 y0 y1 y2 y3 y4 y5 hga' hgb';go_wp2_with fail
   refine hUN.out.mono ?_;rintro e W3 ⟨rfl,hb3⟩;have HB3:=hid (HBV.out.trans (hb3.mono hbv));have hcl3:KC s V W3:=KC.of_below hb3
   cases sb
   case true=>
    have hxy:=(YA x y).1 HSB.out;have HD3:=hid ((if_pos hxy).symm.trans HD.out);clear hb3 hcl3 hUN hxy;go_wp2_with fail
    refine qo ?_;go_wp2_with fail
    refine⟨⟨k+1,by go_num,by omega,HD3.out,HB3.out⟩,by simp[intOf];omega⟩
   case false=>
    have hxy: ¬x=y:=fun e=>by have:=(YA x y).2 e;rw[HSB.out]at this;cases this
    have HD3:=hid ((if_neg hxy).symm.trans HD.out);obtain⟨u11,u12,u13,u21,u22,u23⟩:=HU.out;have hk3:=HKV.out.trans hcl3;have HF:=hid (show FoundC s W3 #[.int .i64 x.k,(.slice p1 l1 q1),(.slice p2 l2 q2),.bool x.la,.int .i64 x.o,(.slice p3 l3 q3),.int .i64 y.k,(.slice s1 j1 t1),(.slice s2 j2 t2),.bool y.la,.int .i64 y.o,(.slice s3 j3 t3),.int .i64 (row:Nat),.int .u64 (k:Nat)] x y row k from⟨_,_,_,_,_,_,rfl,u11.kc hk3,u12.kc hk3,u13.kc hk3,u21.kc hk3,u22.kc hk3,u23.kc hk3⟩);have xw0:=(hb3.cell (p:=⟨ga,oa+k*6,none⟩) z1).trans xv0;have xw1:=(hb3.cell (p:=⟨ga,oa+k*6+1,none⟩) z1).trans xv1;have xw2:=(hb3.cell (p:=⟨ga,oa+k*6+2,none⟩) z1).trans xv2;have xw3:=(hb3.cell (p:=⟨ga,oa+k*6+3,none⟩) z1).trans xv3;have xw4:=(hb3.cell (p:=⟨ga,oa+k*6+4,none⟩) z1).trans xv4;have xw5:=(hb3.cell (p:=⟨ga,oa+k*6+5,none⟩) z1).trans xv5;have yw0:=(hb3.cell (p:=⟨gb,ob+k*6,none⟩) z2).trans yv0;have yw1:=(hb3.cell (p:=⟨gb,ob+k*6+1,none⟩) z2).trans yv1;have yw2:=(hb3.cell (p:=⟨gb,ob+k*6+2,none⟩) z2).trans yv2;have yw3:=(hb3.cell (p:=⟨gb,ob+k*6+3,none⟩) z2).trans yv3;have yw4:=(hb3.cell (p:=⟨gb,ob+k*6+4,none⟩) z2).trans yv4;have yw5:=(hb3.cell (p:=⟨gb,ob+k*6+5,none⟩) z2).trans yv5;have z13:ga<W3.heap.size:=by have:=hb3.size;omega
    have z23:gb<W3.heap.size:=by have:=hb3.size;omega
    clear hcl3 hUN hxy u11 u12 u13 u21 u22 u23 hk3 HKV HU HM1V HM2V HBV HSB z1 z2 hbv hb3 xv0 xv1 xv2 xv3 xv4 xv5 yv0 yv1 yv2 yv3 yv4 yv5;have hwk:IntKind.u64.wrap (k:Int)=(k:Int):=by rw[IntKind.wrap_u64]<;>omega
    go_wp2_with fail
    refine qo ?_;go_upto_region 4 with(fail)
    refine qA (n:=13) (w0:=W3) (B:=W3.heap.size) [.v 24 (.slice (some ⟨ga,oa,none⟩) na ca),.v 25 (.int .i64 (k:Nat)),.v 26 (.pointer (some ⟨ga,oa+k*6,none⟩)),.v 27 (.agg (qx x.k (.slice p1 l1 q1) (.slice p2 l2 q2) x.la x.o (.slice p3 l3 q3))),.v 28 (.slice (some ⟨gb,ob,none⟩) nb cb),.v 29 (.int .i64 (k:Nat)),.v 30 (.pointer (some ⟨gb,ob+k*6,none⟩)),.v 31 (.agg (qx y.k (.slice s1 j1 t1) (.slice s2 j2 t2) y.la y.o (.slice s3 j3 t3))),.v 32 (.int .i64 (row:Nat)),.v 33 (.int .i64 (k:Nat)),.v 34 (.int .u64 (k:Nat)),.v 35 (.agg #[.int .i64 x.k,(.slice p1 l1 q1),(.slice p2 l2 q2),.bool x.la,.int .i64 x.o,(.slice p3 l3 q3),.int .i64 y.k,(.slice s1 j1 t1),(.slice s2 j2 t2),.bool y.la,.int .i64 y.o,(.slice s3 j3 t3),.int .i64 (row:Nat),.int .u64 (k:Nat)]),.v 36 (.iface 68 (.agg #[.int .i64 x.k,(.slice p1 l1 q1),(.slice p2 l2 q2),.bool x.la,.int .i64 x.o,(.slice p3 l3 q3),.int .i64 y.k,(.slice s1 j1 t1),(.slice s2 j2 t2),.bool y.la,.int .i64 y.o,(.slice s3 j3 t3),.int .i64 (row:Nat),.int .u64 (k:Nat)]))] trivial Br.drew Nl ?_ ?_
    ·repeat' (with_reducible first|exact qt|refine qn ?_ ?_)
     all_goals try
      intro AA xx V hA hV hBV hdep D K hK;have a0:=hA.2 0 (by decide);conv at a0=>rhs;whnf
      have a1:=hA.2 1 (by decide);conv at a1=>rhs;whnf
      have a2:=hA.2 2 (by decide);conv at a2=>rhs;whnf
      have a6:=hA.2 6 (by decide);conv at a6=>rhs;whnf
      have xq0:=(hV.cell (p:=⟨ga,oa+k*6,none⟩) z13).trans xw0;have xq1:=(hV.cell (p:=⟨ga,oa+k*6+1,none⟩) z13).trans xw1;have xq2:=(hV.cell (p:=⟨ga,oa+k*6+2,none⟩) z13).trans xw2;have xq3:=(hV.cell (p:=⟨ga,oa+k*6+3,none⟩) z13).trans xw3;have xq4:=(hV.cell (p:=⟨ga,oa+k*6+4,none⟩) z13).trans xw4;have xq5:=(hV.cell (p:=⟨ga,oa+k*6+5,none⟩) z13).trans xw5;have yq0:=(hV.cell (p:=⟨gb,ob+k*6,none⟩) z23).trans yw0;have yq1:=(hV.cell (p:=⟨gb,ob+k*6+1,none⟩) z23).trans yw1;have yq2:=(hV.cell (p:=⟨gb,ob+k*6+2,none⟩) z23).trans yw2;have yq3:=(hV.cell (p:=⟨gb,ob+k*6+3,none⟩) z23).trans yw3;have yq4:=(hV.cell (p:=⟨gb,ob+k*6+4,none⟩) z23).trans yw4;have yq5:=(hV.cell (p:=⟨gb,ob+k*6+5,none⟩) z23).trans yw5;have z1:ga<V.heap.size:=by have:=hV.size;omega
      have z2:gb<V.heap.size:=by have:=hV.size;omega
      simp only[QI,QU]at D;clear hdep hA;go_simp
      exact hK _ _ BR rfl
     intro AA xx V hA hV hBV hdep _ K hK;have g27:=gv hA hdep 3 27;have g31:=gv hA hdep 7 31;have g32:=gv hA hdep 8 32;have g34:=gv hA hdep 10 34;clear hdep hA;rw[Lh]at g27 g31 g32 g34;unfold qx at g27 g31;go_simp
     exact hK _ _ BR rfl
    intro xx V hV hBV hall;clear hall;refine qh ?_;simp only[Qi,Act.put,Ls];have HFV:=hid (HF.out.kc (KC.of_below hV));have HBV:=hid (HB3.out.trans (hV.mono (by have:=HB3.out.size;omega)));clear hV hBV HF HB3 z13 z23;go_wp2_with fail
    refine j4 ?_;go_wp2_with fail
    refine⟨rfl,?_,by first|exact HBV.out|(rw[hb0];exact HBV.out)⟩;rw[←HD3.out];exact⟨_,rfl,HFV.out⟩
  have hkm:k=mn:=by omega
  have hlt3: ¬((k:Int)<(mn:Nat)):=by omega
  have hdn:=qdx (A:=A) (B:=B) (n:=k) (by rw[HNA.out,HNB.out,HMN.out,hkm];exact Nat.le_refl _);rw[hdn]at hd;have HD:=hid hd;have HBE:=hid hb;clear hd hb hkm hlt hk hdn;go_wp2_with fail
  go_end0
  exact⟨by rw[←HD.out];rfl,by first|exact HBE.out|(rw[hb0];exact HBE.out)⟩
end Go.Proofs.YtdndeffmlhaipaaGreatDoor
namespace Go.Proofs.YtdndeffmlhaipaaGreatDoor
open Go.ChangeShapes Go.WideShapes Go.ChangeAt Go.RowKit Go.Joins Go.Shelf Go.Maps
open Go.Lib (hid)
theorem ZZ (c:Array Value)(w:World):(Instr.typeAssert (.iface 68 (.agg c)) 20 68 true).run Tryz.prog w= .ok (.tuple #[.agg c,.bool true]) w:=by kernel_rfl
theorem qa6 (p6 p7:Nat)(c old:Array Value)(hc:c.size=14)(ho:old.size=14)(h1:c.all (·.oneCell')=true)(bz:Bool)(older:List PanicEntry)(w:World)(h6:w.heap[p6]? =some (.cells old 68 (0,0)))(h7:w.heap[p7]? =some (.cells #[.bool bz] 4 (0,0)))(hne:p6≠p7):
  CallsDIn Fence.wide 0 Tryz.prog 67 #[.pointer (some ⟨p6,0,none⟩),.pointer (some ⟨p7,0,none⟩)] (.panicking ({ v:= .iface 68 (.agg c),recovered:=false }::older)) w fun e u' w'=>
   e= .returned (.tuple #[])∧u'= .panicking ({ v:= .iface 68 (.agg c),recovered:=true }::older)∧w'=(w.setRow p6 c).setCell ⟨p7,0,none⟩ (.bool true):=by
 refine callsDIn_of_wpSIn Tryz.func67 rfl trivial fun c₀ cs hu=>?_
 apply wpSIn_seq
 apply wpSIn_region
 simp[wpOpsSIn,go_sem,recoverD,hu,Tryz.ntmps67,Exit.thenS]
 simp only[Array.replicate_succ,Array.replicate_zero,List.push_toArray,List.append_toArray,List.nil_append,List.cons_append,Ls];have hta: ∀w:World,(Instr.typeAssert (.iface 68 (.agg c)) 20 68 true).run Tryz.prog w= .ok (.tuple #[.agg c,.bool true]) w:=fun w=>ZZ c w
 have hfi:(Tryz.prog.info? 68).map (·.size)=some c.size:=by rw[hc];kernel_rfl
 have hoc:old.size=c.size:=by rw[hc,ho]
 have f7:=frozen_of_row w p7 0 _ _ h7;refine wpSIn_of_wpIn rfl (wpIn_wide.2 ?_);go_wp2_with ((with_reducible show wpList _ _ _ (Oper.mk none (Op.store 68 _ _) _ _ _ _::_) _ _);refine wpList_store_row rfl 68 _ _ rfl p6 c rfl rfl 68 old h6 hfi hoc h1 ?_;have h7':(w.setRow p6 c).heap[p7]? =some (.cells #[.bool bz] 4 (0,0)):=(setRow_other w p6 p7 c (Ne.symm hne)).trans h7;have c7:=qa h7' 0;have f7:=frozen_of_row _ p7 0 _ _ h7';have s7:p7<(w.setRow p6 c).heap.size:=(Ai h7').1)
 cases c₀
 simp_all [bodyPostS,results,Tryz.results67]
theorem qb6 (p6 p7:Nat)(w:World):
  CallsDIn Fence.wide 0 Tryz.prog 67 #[.pointer (some ⟨p6,0,none⟩),.pointer (some ⟨p7,0,none⟩)] .returning w fun e u' w'=>e= .returned (.tuple #[])∧u'= .returning∧w'=w:=by
 refine callsDIn_of_wpSIn Tryz.func67 rfl trivial fun c₀ cs hu=>?_
 apply wpSIn_seq
 apply wpSIn_region
 simp[wpOpsSIn,go_sem,recoverD,hu,Tryz.ntmps67,Exit.thenS]
 simp only[Array.replicate_succ,Array.replicate_zero,List.push_toArray,List.append_toArray,List.nil_append,List.cons_append,Ls];refine wpSIn_of_wpIn rfl (wpIn_wide.2 ?_);go_wp2_with fail
 cases c₀
 simp_all [bodyPostS,results,Tryz.results67]
end Go.Proofs.YtdndeffmlhaipaaGreatDoor
namespace Go.Proofs.YtdndeffmlhaipaaGreatDoor
open Go.ChangeShapes Go.WideShapes Go.ChangeAt Go.RowKit Go.Joins Go.Shelf Go.Maps
open Go.Lib (hid)
attribute [local go_sem] Oper.semAt_some
theorem qce (t:TreeV)(da:Option Addr)(n dc:Nat)(w:World):
  Calls Tryz.prog 68 #[t.val,.slice da n dc] w fun e w'=>e= .returned (.func (.func 85) #[] #[.pointer (some ⟨w.heap.size,0,none⟩),.pointer (some ⟨w.heap.size+1,0,none⟩)])∧w'=(w.alloc (.cells #[.int .i64 t.k,.int .i64 t.d,.int .i64 t.f,.int .i64 t.p,.int .u32 t.l,.int .i64 t.i,.slice t.ka t.kl t.kc,.slice t.sa t.sl t.sc,.slice t.pa t.pl t.pc] 26)).alloc (.cells #[.slice da n dc] 24):=by
 have hmf: ∀(fn:Fn) (first cap:Array Value) (w:World),(Instr.makeFunc fn first cap).run Tryz.prog w= .ok (.func fn first cap) w:=fun _ _ _ _=>rfl
 unfold TreeV.val at*;go_enter Tryz.func68,Tryz.ntmps68
 go_wp2_with fail
 go_ret
 exact⟨rfl,rfl⟩
theorem Q3 {W:World}{o x:Obj}{k:Nat}(h:W.heap[k]? =some x):(W.alloc o).heap[k]? =some x:=qb h (Br.alloc Nl _)
theorem qN {W:World}{o:Obj}{k:Nat}(h:W.heap.size=k):(W.alloc o).heap[k]? =some o:=by rw[←h];exact Wn W o
theorem qw (W:World)(o:Obj):(W.alloc o).heap.size=W.heap.size+1:=World.size_alloc W o
theorem Qw {W:World}{l k:Nat}{o x:Obj}(h:W.heap[k]? =some x)(hne:k≠l):(W.putObj l o).heap[k]? =some x:=((grownBy_putObj' W l o).block k (Ai h).1 (fun e=>hne (Option.some.inj e))).trans h
theorem ZD {W:World}{l:Nat}{o x:Obj}(h:W.heap[l]? =some x):(W.putObj l o).heap[l]? =some o:=by
 have hl:=(Ai h).1;unfold World.putObj;simp[Array.getElem?_setIfInBounds,hl]
theorem spare_put {W:World}{l:Nat}{o:Obj}:Spare (fun k=>k≠l) W (W.putObj l o):=by
 have h:=grownBy_putObj' W l o;exact⟨h.os,h.tape,h.output,h.size,fun k hk hs=>h.block k hk (fun e=>hs (Option.some.inj e))⟩
theorem jl {f:FuncId}{P:Program}{Q:Exit→Act→World→Prop}{a:Act}{w:World}{g:Operand}{ps:Array Tmp}{assign body:Code}{n:Nat}{gf:Nat}{lb:Array Value}{b:Nat}(hb:w.heap.size=b)(hg:a.eval g= .func (.func gf) #[] lb)(eg: ∀args w,(callFunc gf args).run P w= .ok (.enter gf args) w)
  (h: ∀(W1:World) (R1:Loop),R1= { state:= .ready,pending:=none,fn:=f,tmps:=a.tmps,params:=ps,assign,body,defers:=b }→W1.heap[b]? =some (.deferred (some []))→W1.heap[b+1]? =some (.loop R1)→W1.heap.size=b+2→Below b w W1→
   CallsIn Fence.wide n P gf (#[.func (.yield (b+1)) #[] #[]]++lb) W1 (qd0 P (b+1) Q { a with defers:= { target:= .collected b,args:= #[] }::a.defers })):Y6 f P (.rangeFunc g ps assign body) Q a w:=by
 refine qbN (n:=n) hg eg fun W1 hW1=>?_
 rw[hb]at hW1⊢;refine h W1 _ rfl ?_ ?_ ?_ ?_
 ·rw[←hW1];exact Q3 (qN hb)
 ·rw[←hW1];exact qN (by rw[qw,hb])
 ·rw[←hW1,qw,qw,hb]
 ·rw[←hW1,←hb];exact(Br.alloc Nl _).alloc (by simp) _
def zeroF:Array Value:= #[.int .i64 0,.slice none 0 0,.slice none 0 0,.bool false,.int .i64 0,.slice none 0 0,.int .i64 0,.slice none 0 0,.slice none 0 0,.bool false,.int .i64 0,.slice none 0 0,.int .i64 0,.int .u64 0]
def J1 (s b0:Nat)(w w3:World)(l D b8 p6 p7:Nat)(rec:Loop)(zf:Array Value)(LB:Nat→List CallS)(d:Nat)(V:World):Prop:=
 V.heap[l]? =some (.loop rec)∧V.heap[D]? =some (.deferred (some []))∧V.heap[p6]? =some (.cells zf 68 (0,0))∧V.heap[p7]? =some (.cells #[.bool false] 4 (0,0))∧KC s w3 V∧Below b0 w V∧
 ∃ov vs,V.heap[b8]? =some (.cells #[ov] 91 (0,0))∧V.ownsRow s 47 1 ov d vs∧ ∀i,i<d→LevH s V (vs.getD i undef) (LB i)
theorem qe3 {s b0:Nat}{w w3 V V':World}{l D b8 p6 p7 d:Nat}{rec:Loop}{zf:Array Value}{LB:Nat→List CallS}{ov nv v:Value}{vs:List Value}
  (hs:l<s∧D<s∧b8<s∧p6<s∧p7<s) (h0:b0≤l∧b0≤b8) (hw:w.heap.size=b0) (hne:D≠l∧p6≠l∧p7≠l∧b8≠D∧b8≠p6∧b8≠p7∧b8≠l)
  (h2:V.heap[D]? =some (.deferred (some []))) (h3:V.heap[p6]? =some (.cells zf 68 (0,0))) (h4:V.heap[p7]? =some (.cells #[.bool false] 4 (0,0))) (h5:KC s w3 V) (h6:Below b0 w V) (h7:V.heap[b8]? =some (.cells #[ov] 91 (0,0)))
  (h8:V.ownsRow s 47 1 ov d vs) (h9: ∀i,i<d→LevH s V (vs.getD i undef) (LB i)) (hl:V.heap[l]? =some (.loop rec)) (hv:LevH s V v (LB d))
  (k1:V'.heap[l]? =some (.loop rec)) (k7:V'.heap[b8]? =some (.cells #[nv] 91 (0,0))) (k8:V'.ownsRow s 47 1 nv (d+1) (vs++[v])) (kS:Spare (fun k=>k≠l∧k≠b8∧ov.ownBlock≠some k) V V'):
  J1 s b0 w w3 l D b8 p6 p7 rec zf LB (d+1) V'∧KC s V V':=by
 have hob: ∀k,ov.ownBlock=some k→s≤k:=fun k hk=>ZH h8 hk
 have hno: ∀k,k<s→ov.ownBlock≠some k:=fun k hk e=>by have:=hob k e;omega
 have hst: ∀(k:Nat) (x:Obj),V.heap[k]? =some x→k<s→k≠l→k≠b8→V'.heap[k]? =some x:=fun k x hx hk hl hb=>(kS.block k (Ai hx).1 ⟨hl,hb,hno k hk⟩).trans hx
 have hk:KC s V V':=Q8 kS fun k c T fr hk hS=>by
  by_cases e1:k=l
  ·rw[e1,hl]at hk;cases hk
  by_cases e2:k=b8
  ·rw[e2,h7]at hk;simp only[Option.some.injEq,Obj.cells.injEq]at hk;obtain⟨rfl,rfl, -⟩:=hk;refine⟨by decide,by decide,by decide,by decide,by decide,fun _ i z hz=>?_⟩;have hov:ov.ownBlock=none∧ov= .slice none 0 0∨ ∃a m c,ov= .slice a m c:=by
    rcases h8.2 with⟨e, -⟩|⟨g,cap,cur,e, -⟩
    ·exact .inr ⟨_,_,_,e⟩
    ·exact .inr ⟨_,_,_,e⟩
   rcases hov with⟨-,e⟩|⟨a,m,c',e⟩<;>rw[e]at hz<;>rcases i with _|i<;>simp at hz
  by_cases e3:ov.ownBlock=some k
  ·obtain⟨c',T',fr',hh,e⟩:=Yt h8 k e3;rw[hk]at hh;simp only[Option.some.injEq,Obj.cells.injEq]at hh;obtain⟨-,rfl, -⟩:=hh;rw[e];exact⟨by decide,by decide,by decide,by decide,by decide,fun hlt=>absurd hlt (by have:=hob k e3;omega)⟩
  ·exact absurd ⟨e1,e2,e3⟩ hS
 refine⟨⟨k1,hst D _ h2 hs.2.1 hne.1 (fun e=>hne.2.2.2.1 e.symm),hst p6 _ h3 hs.2.2.2.1 hne.2.1 (fun e=>hne.2.2.2.2.1 e.symm),hst p7 _ h4 hs.2.2.2.2 hne.2.2.1 (fun e=>hne.2.2.2.2.2.1 e.symm),h5.trans hk,h6.trans (kS.below (by have:=h6.size;omega) fun k hk=>⟨by omega,by omega,hno k (by omega)⟩),nv,_,k7,k8,fun i hi=>?_⟩,hk⟩;have hvl:vs.length=d:=by have:=h8.1;omega
 by_cases e:i<d
 ·rw[show(vs++[v]).getD i undef=vs.getD i undef by rw[Lg,Lg,List.getElem?_append_left (by omega)]];exact(h9 i e).kc hk
 ·have e:i=d:=by omega
  subst e;rw[show(vs++[v]).getD i undef=v by rw[Lg,←hvl,List.getElem?_append_right Nl];simp];exact hv.kc hk
theorem Yz {W:World}{p:Addr}{u:Value}:Spare (fun k=>k≠p.block) W (W.setCell p u):=⟨rfl,rfl,rfl,by simp,fun k _ hk=>Below.heap_setCell W p u k hk⟩
theorem Zx {F:Fence}{m:Nat}{P:Program}{l:Nat}{args:Array Value}{W:World}{R:Ending→World→Prop}(h: ∀RR:Ending→World→Prop,(∀e V,R e V→RR e V)→YieldAt F m P l args W RR):YieldAt F m P l args W R:=h R fun _ _ h=>h
def J2 (b0 b3 mA mB:Nat)(w:World)(A B LB:List (List CallS))(ov:Value)(vs:List Value)(rec:Loop)(d:Nat)(V:World):Prop:=
 V.heap[b3+3+1]? =some (.loop rec)∧V.heap[b3+3]? =some (.deferred (some []))∧V.heap[b0+6]? =some (.deferred (some []))∧V.heap[b0+1]? =some (.cells zeroF 68 (0,0))∧V.heap[b0+1+1]? =some (.cells #[.bool false] 4 (0,0))∧
 Boxed V (b0+1+1+1) 91 ov∧V.ownsRow (b0+8) 47 1 ov (mB+1) vs∧(∀i,i<mB+1→LevH (b0+8) V (vs.getD i undef) (LB.getD i []))∧V.heap[b3]? =some (.cells #[.int .i64 (d:Nat)] 3 (0,0))∧Below b0 w V∧b3+5≤V.heap.size∧Qu A B mA=Qu (A.drop d) (B.drop d) (mA - d)
def X2 (b0 b3 mA:Nat)(w:World)(A B:List (List CallS))(ch:List PanicEntry)(V:World):Prop:=
 ∃s c a b row i,ch=[{ v:= .iface 68 (.agg c),recovered:=false }]∧FoundC s V c a b row i∧Qu A B mA=some (a,b,row,i)∧V.heap[b3+3]? =some (.deferred (some []))∧V.heap[b0+6]? =some (.deferred (some []))∧V.heap[b0+1]? =some (.cells zeroF 68 (0,0))∧V.heap[b0+1+1]? =some (.cells #[.bool false] 4 (0,0))∧Below b0 w V
section
variable {b0 b3 mA mB:Nat} {w:World} {A B LB:List (List CallS)} {ov:Value} {vs:List Value} {rec rec':Loop} {d d':Nat} {V V':World}
theorem J2.step (h:J2 b0 b3 mA mB w A B LB ov vs rec d V)(hb:b0+8≤b3)(s2:Nat)(hS:Spare (fun k=>k≠b3+3+1∧k≠b3) V V')(k1:V'.heap[b3+3+1]? =some (.loop rec'))(k2:V'.heap[b3]? =some (.cells #[.int .i64 (d':Nat)] 3 (0,0)))(hd:Qu A B mA=Qu (A.drop d') (B.drop d') (mA - d')):J2 b0 b3 mA mB w A B LB ov vs rec' d' V'∧KC s2 V V':=by
 obtain⟨h1,h2,h3,h4,h5,h6,h7,h8,h9,h10,h11,h12⟩:=h;have key: ∀s,KC s V V':=fun s=>Q8 hS fun k c T fr hk hn=>by
  by_cases e1:k=b3+3+1
  ·rw[e1,h1]at hk;cases hk
  by_cases e2:k=b3
  ·rw[e2,h9]at hk;simp only[Option.some.injEq,Obj.cells.injEq]at hk;obtain⟨rfl,rfl, -⟩:=hk;exact⟨by decide,by decide,by decide,by decide,by decide,fun _ i z hz=>by rcases i with _|i<;>simp at hz⟩
  ·exact absurd ⟨e1,e2⟩ hn
 have hst: ∀(k:Nat) (x:Obj),V.heap[k]? =some x→k≠b3+3+1→k≠b3→V'.heap[k]? =some x:=fun k x hx e1 e2=>(hS.block k (Ai hx).1 ⟨e1,e2⟩).trans hx
 refine⟨⟨k1,hst _ _ h2 (by omega) (by omega),hst _ _ h3 (by omega) (by omega),hst _ _ h4 (by omega) (by omega),hst _ _ h5 (by omega) (by omega),hst _ _ h6 (by omega) (by omega),Jd h7 (fun g hg=>?_),fun i hi=>(h8 i hi).kc (key _),k2,h10.trans (hS.below (by have:=h10.size;omega) fun k hk=>⟨by omega,by omega⟩),Nat.le_trans h11 hS.size,hd⟩,key s2⟩;obtain⟨c,T,fr,hh,e⟩:=Yt h7 g hg;refine hS.block g (Ai hh).1 ⟨fun e1=>?_,fun e1=>?_⟩
 ·rw[e1,h1]at hh;cases hh
 ·rw[e1,h9]at hh;simp only[Option.some.injEq,Obj.cells.injEq]at hh;rw[e]at hh;exact absurd hh.2.1 (by decide)
theorem J2.below (h:J2 b0 b3 mA mB w A B LB ov vs rec d V)(hb:b0+8≤b3)(hB:Below V.heap.size V V'):J2 b0 b3 mA mB w A B LB ov vs rec d V':=by
 have k:=h;obtain⟨h1,h2,h3,h4,h5,h6,h7,h8,h9,h10,h11,h12⟩:=k;exact(h.step hb 0 (Spare.of_below _ hB) (qb h1 hB) (qb h9 hB) h12).1
theorem J2.found (h:J2 b0 b3 mA mB w A B LB ov vs rec d V){s:Nat}{c:Array Value}{a b:CallS}{row i:Nat}(hF:FoundC s V c a b row i)(hd:Qu A B mA=some (a,b,row,i)):X2 b0 b3 mA w A B [{ v:= .iface 68 (.agg c),recovered:=false }] V:=by
 obtain⟨h1,h2,h3,h4,h5,h6,h7,h8,h9,h10,h11,h12⟩:=h;exact⟨s,c,a,b,row,i,rfl,hF,hd,h2,h3,h4,h5,h10⟩
end
theorem qbq {A B:List (List CallS)}{m d:Nat}(hd:d<A.length):Qu (A.drop d) (B.drop d) (m - d)=if d<B.length then(match Qo (A.getD d []) (B.getD d []) 0 with|some (a,b,i)=>some (a,b,m - d,i)|none=>Qu (A.drop (d+1)) (B.drop (d+1)) (m - (d+1))) else Qu (A.drop (d+1)) (B.drop (d+1)) (m - (d+1)):=by
 rw[List.drop_eq_getElem_cons hd];have e1:A.getD d []=A[d]:=by rw[Lg,List.getElem?_eq_getElem hd];rfl
 by_cases h:d<B.length
 ·rw[if_pos h,List.drop_eq_getElem_cons h];have e2:B.getD d []=B[d]:=by rw[Lg,List.getElem?_eq_getElem h];rfl
  rw[e1,e2,show m - (d+1)=m - d - 1 by omega];rfl
 ·rw[if_neg h,List.drop_eq_nil_of_le (show B.length≤d by omega),List.drop_eq_nil_of_le (show B.length≤d+1 by omega)]
  cases A.drop (d+1)<;>rfl
theorem Y2 (t:TreeV)(kz z1 z2 zs:List Int)(m:Nat):(t.downC kz z1 z2 zs m).length=m+1:=by unfold TreeV.downC;simp
theorem TreeV.downC_get (t:TreeV)(kz z1 z2 zs:List Int){m i:Nat}(h:i<m+1):(t.downC kz z1 z2 zs m).getD i []=t.callsR kz z1 z2 zs (m - i):=by
 unfold TreeV.downC;rw[Lg,List.getElem?_map,List.getElem?_range h];rfl
theorem qew {P:Prop}{s:Nat}{V V2 V':World}(hk:KC s V V2)(h:P∧KC s V2 V'):P∧KC s V V':=⟨h.1,hk.trans h.2⟩
theorem qdd {W:World}{s T g n cap:Nat}{vs:List Value}(h:W.ownsRow s T 1 (.slice (some ⟨g,0,none⟩) n cap) n vs){i:Nat}(hi:i<n):W.cell? ⟨g,i,none⟩=some (vs.getD i undef):=by
 rcases h.2 with⟨e, -⟩|⟨g',cap',cur,e,h1,h2,h3,h4,h5,h6⟩
 ·cases e
 ·simp only[Value.slice.injEq,Option.some.injEq,Addr.mk.injEq,and_true,true_and]at e;obtain⟨rfl,rfl⟩:=e;have hl:vs.length=n:=by have:=h.1;omega
  have e9:vs[i]? =cur[i]? :=by rw[←h6,List.getElem?_take,if_pos (by omega),Array.getElem?_toList]
  rw[qa h2,Lg,←e9,List.getElem?_eq_getElem (by omega)];rfl
theorem yd {W:World}{v:Value}{zs:List Int}(h:Hold W v zs):v.oneCell'=true:=by
 rcases h.2 with h2|⟨ad,cap,rfl,h1,h2, -⟩
 ·rw[h2.2];rfl
 ·rfl
theorem FoundC.size {s:Nat}{W:World}{c:Array Value}{a b:CallS}{row i:Nat}(h:FoundC s W c a b row i):c.size=14:=by
 obtain⟨b1,k1,d1,b2,k2,d2,rfl, -⟩:=h;rfl
theorem FoundC.one {s:Nat}{W:World}{c:Array Value}{a b:CallS}{row i:Nat}(h:FoundC s W c a b row i):c.all (·.oneCell')=true:=by
 obtain⟨b1,k1,d1,b2,k2,d2,rfl,h1,h2,h3,h4,h5,h6⟩:=h;simp[yd h1.1,yd h2.1,yd h3.1,yd h4.1,yd h5.1,yd h6.1]
 simp[Value.oneCell']
theorem qaW (i:Nat)(z:Int):zeroF[i]? ≠some (Value.int .u8 z):=by
 intro h;obtain⟨hi,h⟩:=Ai h;have k:=Array.all_eq_true.1 (show zeroF.all (fun v=>match v with| .int .u8 _=>false|_=>true)=true from by kernel_rfl) i hi;rw[h]at k
 cases k
theorem z6 {fn:Func}{p q:Tmp}(h:fn.results= #[.cell p 68,.cell q 4])(tmps:Array Value)(w:World)(p6 p7:Nat)(cs:Array Value)(b:Bool)(hp:tmps.getD p undef= .pointer (some ⟨p6,0,none⟩))(hq:tmps.getD q undef= .pointer (some ⟨p7,0,none⟩))(h6:w.heap[p6]? =some (.cells cs 68 (0,0)))(hc:cs.size=14)(h7:w.heap[p7]? =some (.cells #[.bool b] 4 (0,0))):(results fn tmps).run Tryz.prog w= .ok (.tuple #[.agg cs,.bool b]) w:=by
 have hp':tmps[p]?.getD undef= .pointer (some ⟨p6,0,none⟩):=by simpa using hp
 have hq':tmps[q]?.getD undef= .pointer (some ⟨p7,0,none⟩):=by simpa using hq
 have e1:=run_loadVar_row (P:=Tryz.prog) w p6 68 68 cs (0,0) _ h6 Tryz.underlying68 rfl (by rw[hc];kernel_rfl);have c7:=qa h7 0;have e2:(loadVar 4 ⟨p7,0,none⟩).run Tryz.prog w= .ok (.bool b) w:=by
  simp[loadVar,isAgg,go_sem,Tryz.underlying4,c7]
 simp[results,h,hp',hq',asAddr,e1,e2,Sem.run_bind,Result.andThen]
def JH (r:Option (CallS×CallS×Nat×Nat))(e:Ending)(W:World):Prop:=match r with
 | none=> ∃z,e= .returned (.tuple #[z,.bool false])
 | some (a,b,row,i)=> ∃s c,e= .returned (.tuple #[.agg c,.bool true])∧FoundC s W c a b row i
theorem qc7 (t:TreeV)(kz z1 z2 xs ys:List Int)(xa ya:Option Addr)(xc yc:Nat)(w:World)(h:TreeOk t kz z1 z2 w)(hx:Hold w (.slice xa xs.length xc) xs)(hy:Hold w (.slice ya ys.length yc) ys)(hxn:xs.length≤4194304)(hyn:ys.length≤4194304)(mA mB:Nat)(hmA:(t.rowsOf xs.length).length - 1=mA)(hmB:(t.rowsOf ys.length).length - 1=mB):
  Calls Tryz.prog 48 #[t.val,.slice xa xs.length xc,.slice ya ys.length yc] w fun e W'=>JH (Qu (t.downC kz z1 z2 xs mA) (t.downC kz z1 z2 ys mB) mA) e W'∧Below w.heap.size w W':=by
 obtain⟨b0,hb0⟩:=Ex w.heap.size;have hmf: ∀(fn:Fn) (first cap:Array Value) (w:World),(Instr.makeFunc fn first cap).run Tryz.prog w= .ok (.func fn first cap) w:=fun _ _ _ _=>rfl
 have HT:=hid h;have hmB4:mB≤254:=by
  have hv:=HT.out.v;have hR:=qM (qK hv hyn);have hmost:=hR.most;have hlen:=hR.len;have hpn:t.pn≤255:=by have:=(qd hv).2.2.2.2.2.2.2.1;unfold TreeV.pn;omega
  omega
 have hmA4:mA≤254:=by
  have hv:=HT.out.v;have hR:=qM (qK hv hxn);have hmost:=hR.most;have hlen:=hR.len;have hpn:t.pn≤255:=by have:=(qd hv).2.2.2.2.2.2.2.1;unfold TreeV.pn;omega
  omega
 obtain⟨il,hil,hzl,hsl,hbl⟩:=info_parts qci;have HX:=hid hx;have HYY:=hid hy;have HLF:=hid (fun(da:Option Addr) (n dc:Nat) (W:World)=>qce t da n dc W);clear h hx hy;unfold TreeV.val at*;refine JS (n:=1) Tryz.func48 rfl ?_;simp only[Tryz.ntmps48,List.size_toArray,List.length_cons,List.length_nil,Nat.reduceAdd,Nat.reduceSub,Array.replicate_succ,Array.replicate_zero,List.push_toArray,List.append_toArray,List.nil_append,List.cons_append];obtain⟨QQ,hQQ⟩: ∃QQ,bodyPostM Fence.wide 1 Tryz.prog Tryz.f48 (fun e W'=>JH (Qu (t.downC kz z1 z2 xs mA) (t.downC kz z1 z2 ys mB) mA) e W'∧Below w.heap.size w W')=QQ:=⟨_,rfl⟩;rw[hQQ];refine QY fun K hK=>?_
 go_wp2_with fail
 refine QY fun K hK=>?_
 go_wp2_with fail
 refine QY fun K hK=>?_
 go_wp2_with fail
 refine jm fun wA hwA=>?_
 have hA3:wA.heap[b0]? =some (.cells #[.int .i64 t.k,.int .i64 t.d,.int .i64 t.f,.int .i64 t.p,.int .u32 t.l,.int .i64 t.i,.slice t.ka t.kl t.kc,.slice t.sa t.sl t.sc,.slice t.pa t.pl t.pc] 26 (0,0)):=by rw[hwA];exact Q3 (Q3 (Q3 (qN hb0)))
 have hA6:wA.heap[b0+1]? =some (.cells zeroF 68 (0,0)):=by rw[hwA];exact Q3 (Q3 (qN (by rw[qw,hb0])))
 have hA7:wA.heap[b0+1+1]? =some (.cells #[.bool false] 4 (0,0)):=by rw[hwA];exact Q3 (qN (by rw[qw,qw,hb0]))
 have hA8:wA.heap[b0+1+1+1]? =some (.cells #[.slice none 0 0] 91 (0,0)):=by rw[hwA];exact qN (by rw[qw,qw,qw,hb0])
 have hAs:wA.heap.size=b0+4:=by rw[hwA,qw,qw,qw,qw,hb0]
 have hAB:Below b0 w wA:=by rw[hwA,←hb0];exact(((Br.alloc Nl _).alloc (by simp) _).alloc (by simp;omega) _).alloc (by simp;omega) _
 clear hwA;refine jX fun Q1 hn1 hp1=>?_
 refine QY fun K hK=>?_
 go_wp2_with ((with_reducible show wpList _ _ _ (Oper.mk _ (Op.load 26 _) _ _ _ _::_) _ _);refine wpList_load_row rfl 26 _ rfl b0 rfl _ _ _ _ hA3 Tryz.underlying26 rfl (by kernel_rfl) ?_)
 refine(HLF.out _ _ _ _).mono ?_;rintro e wB ⟨rfl,hwB⟩;rw[hAs];have hBB:Below (b0+4) wA wB:=by rw[hwB,←hAs];exact(Br.alloc Nl _).alloc (by simp) _
 have hBT:wB.heap[b0+4]? =some (.cells #[.int .i64 t.k,.int .i64 t.d,.int .i64 t.f,.int .i64 t.p,.int .u32 t.l,.int .i64 t.i,.slice t.ka t.kl t.kc,.slice t.sa t.sl t.sc,.slice t.pa t.pl t.pc] 26 (0,0)):=by rw[hwB];exact Q3 (qN hAs)
 have hBD:wB.heap[b0+4+1]? =some (.cells #[.slice ya ys.length yc] 24 (0,0)):=by rw[hwB];exact qN (by rw[qw,hAs])
 have hBs:wB.heap.size=b0+6:=by rw[hwB,qw,qw,hAs]
 clear hwB;go_wp2_with fail
 refine jY ?_;refine jl (n:=9) (gf:=85) (lb:= #[.pointer (some ⟨b0+4,0,none⟩),.pointer (some ⟨b0+4+1,0,none⟩)]) hBs rfl (enters_of Tryz.func85 (by kernel_rfl) rfl) ?_;intro W1 R1 hR1 hD1 hl1 hs1 hb1;have hst1: ∀(k:Nat) (x:Obj),k<b0+4→wA.heap[k]? =some x→W1.heap[k]? =some x:=fun k x hk hx=>(hb1.block k (by omega)).trans ((hBB.block k hk).trans hx)
 have hbw:Below b0 w W1:=hAB.trans ((hBB.mono (by omega)).trans (hb1.mono (by omega)));have h11:=hst1 _ _ (by omega) hA6;have h12:=hst1 _ _ (by omega) hA7;have h13:=hst1 _ _ (by omega) hA8;have h14:=hst1 _ _ (by omega) hA3;have h15:=(hb1.block _ (by omega)).trans hBT;have h16:=(hb1.block _ (by omega)).trans hBD;clear hA3 hA6 hA7 hA8 hBT hBD hBB hAB hb1 hAs hBs;simp only[List.append_toArray,List.cons_append,List.nil_append];refine callsIn_wide.2 ((Ji t kz z1 z2 ys hyn ya yc (b0+8) (b0+6+1) (b0+4) (b0+4+1) 9 mB (J1 (b0+8) b0 w W1 (b0+6+1) (b0+6) (b0+1+1+1) (b0+1) (b0+1+1) R1 zeroF (fun i=>t.callsR kz z1 z2 ys (mB - i))) (fun _ _=>False) W1 (by omega) hmB (HT.out.below (by rw[hb0];exact hbw)) (HYY.out.below (by rw[hb0];exact hbw)) h15 h16 ?_ ?_).mono ?_)
 ·intro W' hb';exact⟨qb hl1 hb',qb hD1 hb',qb h11 hb',qb h12 hb',KC.of_below hb',hbw.trans (hb'.mono (by omega)),_,[],qb h13 hb',Wo _ _ _ _,fun i hi=>absurd hi (Nat.not_lt_zero i)⟩
 ·rintro d V v hd ⟨hl,hD,h6,h7,hkc,hbV,ov,vs,hbox,hown,hall⟩ hv
  refine Zx fun RR hRR=>?_
  refine⟨_,_,_,_,run_yield hl (by rw[hR1];rfl),?_⟩;refine jq trivial ⟨_,by rw[hR1];rfl⟩ ?_;simp only[hR1,List.zip_toArray,List.zip_cons_cons,List.zip_nil_left,List.foldl_toArray,List.foldl_cons,List.foldl_nil,Ls];gi_wp2_with fail
  obtain⟨V1,hV1⟩: ∃V1,V1=V.putObj (b0+6+1) (.loop { R1 with state:= .busy }):=⟨_,rfl⟩;refine⟨V1,by rw[hV1];exact run_beginRound hl (by rw[hR1]),?_⟩;have hx1:Boxed V1 (b0+1+1+1) 91 ov:=by rw[hV1];exact Qw hbox (by omega)
  have ho1:V1.ownsRow (b0+8) 47 1 ov d vs:=by rw[hV1];exact ownsRow_putObj hown _ hl rfl
  have hl1':V1.heap[b0+6+1]? =some (.loop { R1 with state:= .busy }):=by rw[hV1];exact ZD hl
  have hS1:Spare (fun k=>k≠b0+6+1) V V1:=by rw[hV1];exact spare_put
  have hz1:b0+8≤V1.heap.size:=by have:=hS1.size;have:=hkc.1;omega
  have hRR':=hid hRR;have HR1:=hid hR1;have HV:=hid hv;obtain⟨g,off,cap,rfl, -, -, -, -⟩:=hv;have hc:=hx1.cell;have hd255:d≤300:=by omega
  clear hV1 hRR hR1;gi_wp2_with (gi_at_builtin;refine wpListIn_append_own _ rfl _ _ 91 rfl (b0+8) 47 il (.slice none 0 0) 1 24 Tryz.underlying91 hil hzl hsl hbl rfl (by decide) _ _ _ rfl (ho1.alloc _) ⟨V1.heap.size,0,none⟩ 1 1 [.slice (some ⟨g,off,none⟩) (t.callsR kz z1 z2 ys (mB - d)).length cap] rfl rfl (cell_one_new _ _ _) (by simp[Value.oneCell']) (by unfold maxLen;omega) (by omega) (by simp;omega) ?_;intro v' w3 hown' hgrow _;obtain⟨g',cap',rfl⟩:=ownsRow_succ hown';have hx3:Boxed w3 (b0+1+1+1) 91 ov:=(hx1.alloc _).kept hgrow (hx1.not_row (by decide) ho1);have hc1:=hx3.cell;have hf1:=hx3.frozen)
  have hno: ∀k,ov.ownBlock=some k→b0+8≤k:=fun k hk=>ZH ho1 hk
  have hl3:w3.heap[b0+6+1]? =some (.loop { R1 with state:= .busy }):=(hgrow.block _ (by simp;omega) (fun e=>by have:=hno _ e.symm;omega)).trans (Q3 hl1');have hl4:(w3.setCell ⟨b0+1+1+1,0,none⟩ (.slice (some ⟨g',0,none⟩) (d+1) cap')).heap[b0+6+1]? =some (.loop { R1 with state:= .busy }):=(Below.heap_setCell _ _ _ _ (by show b0+6+1≠b0+1+1+1;omega)).trans hl3;have ho4:(w3.setCell ⟨b0+1+1+1,0,none⟩ (.slice (some ⟨g',0,none⟩) (d+1) cap')).ownsRow (b0+8) 47 1 (.slice (some ⟨g',0,none⟩) (d+1) cap') (d+1) (vs++[.slice (some ⟨g,off,none⟩) (t.callsR kz z1 z2 ys (mB - d)).length cap]):=hown'.kept (grownBy_setCell' w3 _ _) (.inr (hx3.not_row (by decide) hown').symm);refine⟨_,_,run_endRound none hl4,hRR'.out _ _ (.inl ⟨rfl,qe3 (ov:=ov) (nv:= .slice (some ⟨g',0,none⟩) (d+1) cap') (by omega) (by omega) hb0 (by omega) hD h6 h7 hkc hbV hbox hown hall hl HV.out ?_ ?_ ?_ ?_⟩)⟩
  ·exact(ZD hl4).trans (by rw[HR1.out];rfl)
  ·exact Qw (hx3.set _) (by omega)
  ·exact ownsRow_putObj ho4 _ hl4 rfl
  ·exact(((((Spare.refl (fun k=>k≠b0+6+1∧k≠b0+1+1+1∧ov.ownBlock≠some k) V).trans hS1 (fun b _ h=>h.1)).trans (Spare.of_below (fun _=>True) ((Below.refl _ V1).alloc Nl _)) (fun _ _ _=>trivial)).trans (Spare.of_grown hgrow) (fun b _ h=>h.2.2)).trans Yz (fun b _ h=>h.2.1)).trans spare_put (fun b _ h=>h.1)
 rintro e W2 (⟨rfl,hJ⟩|⟨ch,rfl,hF⟩)
 case inr=>exact hF.elim
 obtain⟨hl,hD,h6,h7,hkc,hbV,ov,vs,hbox,hown,hall⟩:=hJ;obtain⟨W3,hW3⟩: ∃W3,W3=W2.putObj (b0+6+1) (.loop { R1 with state:= .exhausted }):=⟨_,rfl⟩;refine⟨W3,by rw[hW3];exact(run_endLoop hl (by rw[hR1];exact fun h=>by cases h)).trans (by rw[hR1]),?_⟩;have hk3:KC (b0+8) W2 W3:=by
  rw[hW3];refine Q8 spare_put fun k c T fr hk hS=>?_
  have e:k=b0+6+1:=Decidable.byContradiction hS;rw[e,hl]at hk;cases hk
 have hbox3:Boxed W3 (b0+1+1+1) 91 ov:=by rw[hW3];exact Qw hbox (by omega)
 have hown3:W3.ownsRow (b0+8) 47 1 ov (mB+1) vs:=by rw[hW3];exact ownsRow_putObj hown _ hl rfl
 have hD3:W3.heap[b0+6]? =some (.deferred (some [])):=by rw[hW3];exact Qw hD (by omega)
 have h63:W3.heap[b0+1]? =some (.cells zeroF 68 (0,0)):=by rw[hW3];exact Qw h6 (by omega)
 have h73:W3.heap[b0+1+1]? =some (.cells #[.bool false] 4 (0,0)):=by rw[hW3];exact Qw h7 (by omega)
 have hbw3:Below b0 w W3:=hbV.trans (by rw[hW3];exact spare_put.below (by have:=hkc.1;omega) (fun k hk=>by omega));have hall3: ∀i,i<mB+1→LevH (b0+8) W3 (vs.getD i undef) (t.callsR kz z1 z2 ys (mB - i)):=fun i hi=>(hall i hi).kc hk3
 have h143:W3.heap[b0]? =some (.cells #[.int .i64 t.k,.int .i64 t.d,.int .i64 t.f,.int .i64 t.p,.int .u32 t.l,.int .i64 t.i,.slice t.ka t.kl t.kc,.slice t.sa t.sl t.sc,.slice t.pa t.pl t.pc] 26 (0,0)):=(hkc.trans hk3).2 _ _ _ _ h14 (.inr (.inr (.inl rfl)));have hs3:b0+8≤W3.heap.size:=by have:=(hkc.trans hk3).1;omega
 clear hl hD h6 h7 hkc hbV hbox hown hall hk3 hW3 h11 h12 h13 h14 h15 h16 hbw hst1 hl1 hD1 hs1 hR1;refine hn1 _ _ ?_;obtain⟨b3,hb3⟩:=Ex W3.heap.size;refine QY fun K hK=>?_
 go_wp2_with fail
 refine jm fun wC hwC=>?_
 have hbC:Below b3 W3 wC:=by rw[hwC,←hb3];exact Br.alloc Nl _
 have hC3:wC.heap[b3]? =some (.cells #[.int .i64 0] 3 (0,0)):=by rw[hwC];exact qN hb3
 have hCs:wC.heap.size=b3+1:=by rw[hwC,qw,hb3]
 have hC0:wC.heap[b0]? =some (.cells #[.int .i64 t.k,.int .i64 t.d,.int .i64 t.f,.int .i64 t.p,.int .u32 t.l,.int .i64 t.i,.slice t.ka t.kl t.kc,.slice t.sa t.sl t.sc,.slice t.pa t.pl t.pc] 26 (0,0)):=(hbC.block _ (by omega)).trans h143;clear hwC;refine jX fun Q2 hn2 hp2=>?_
 refine QY fun K hK=>?_
 go_wp2_with ((with_reducible show wpList _ _ _ (Oper.mk _ (Op.load 26 _) _ _ _ _::_) _ _);refine wpList_load_row rfl 26 _ rfl b0 rfl _ _ _ _ hC0 Tryz.underlying26 rfl (by kernel_rfl) ?_)
 refine(HLF.out _ _ _ _).mono ?_;rintro e wE ⟨rfl,hwE⟩;rw[hCs];have hBE:Below (b3+1) wC wE:=by rw[hwE,←hCs];exact(Br.alloc Nl _).alloc (by simp) _
 have hET:wE.heap[b3+1]? =some (.cells #[.int .i64 t.k,.int .i64 t.d,.int .i64 t.f,.int .i64 t.p,.int .u32 t.l,.int .i64 t.i,.slice t.ka t.kl t.kc,.slice t.sa t.sl t.sc,.slice t.pa t.pl t.pc] 26 (0,0)):=by rw[hwE];exact Q3 (qN hCs)
 have hED:wE.heap[b3+1+1]? =some (.cells #[.slice xa xs.length xc] 24 (0,0)):=by rw[hwE];exact qN (by rw[qw,hCs])
 have hEs:wE.heap.size=b3+3:=by rw[hwE,qw,qw,hCs]
 clear hwE;go_wp2_with fail
 refine jY ?_;refine jl (n:=9) (gf:=85) (lb:= #[.pointer (some ⟨b3+1,0,none⟩),.pointer (some ⟨b3+1+1,0,none⟩)]) hEs rfl (enters_of Tryz.func85 (by kernel_rfl) rfl) ?_;intro W5 R2 hR2 hD5 hl5 hs5 hb5;have hB5:Below b3 W3 W5:=(hbC.trans (hBE.mono (by omega))).trans (hb5.mono (by omega));have hbx:Below b0 w W5:=hbw3.trans (hB5.mono (by omega));have hst5: ∀(k:Nat) (x:Obj),W3.heap[k]? =some x→W5.heap[k]? =some x:=fun k x hx=>qb hx (by rw[hb3];exact hB5)
 obtain⟨gv,cv,rfl⟩:=ownsRow_succ hown3;obtain⟨A,hA⟩:=Ex (t.downC kz z1 z2 xs mA);obtain⟨B,hB⟩:=Ex (t.downC kz z1 z2 ys mB);have hAl:A.length=mA+1:=by rw[←hA,Y2]
 have hBl:B.length=mB+1:=by rw[←hB,Y2]
 have hAg: ∀i,i<mA+1→A.getD i []=t.callsR kz z1 z2 xs (mA - i):=fun i hi=>by rw[←hA];exact t.downC_get kz z1 z2 xs hi
 have hBg: ∀i,i<mB+1→B.getD i []=t.callsR kz z1 z2 ys (mB - i):=fun i hi=>by rw[←hB];exact t.downC_get kz z1 z2 ys hi
 rw[hA,hB]at hQQ;have hJ5:J2 b0 b3 mA mB w A B B (.slice (some ⟨gv,0,none⟩) (mB+1) cv) vs R2 0 W5:=⟨hl5,hD5,hst5 _ _ hD3,hst5 _ _ h63,hst5 _ _ h73,hst5 _ _ hbox3,Jd hown3 (fun g hg=>hB5.block g (by have:=yS hown3 g hg;omega)),fun i hi=>by rw[hBg i hi];exact(hall3 i hi).kc (KC.of_below (by rw[hb3];exact hB5)),(hb5.block _ (by omega)).trans ((hBE.block _ (by omega)).trans hC3),hbx,by omega,rfl⟩;have h55:=(hb5.block _ (by omega)).trans hET;have h56:=(hb5.block _ (by omega)).trans hED;clear hall3 hC3 hst5 hB5 hbC hBE hb5 hET hED hC0 hCs hEs hD3 h63 h73 hbox3 hown3 h143 hbw3 hA hB hBg hD5 hl5;simp only[List.append_toArray,List.cons_append,List.nil_append];refine callsIn_wide.2 ((Ji t kz z1 z2 xs hxn xa xc (b3+5) (b3+3+1) (b3+1) (b3+1+1) 9 mA (J2 b0 b3 mA mB w A B B (.slice (some ⟨gv,0,none⟩) (mB+1) cv) vs R2) (X2 b0 b3 mA w A B) W5 (by omega) hmA (HT.out.below (by rw[hb0];exact hbx)) (HX.out.below (by rw[hb0];exact hbx)) h55 h56 (fun W' hb'=>hJ5.below (by omega) hb') ?_).mono ?_)
 ·intro d V v hd hJ hv;refine Zx fun RR hRR=>?_
  have k0:=hJ;obtain⟨hl, -, -, -, -,hx8,how,hall,ht, -,hsz,hdf⟩:=k0;refine⟨_,_,_,_,run_yield hl (by rw[hR2];rfl),?_⟩;refine jq trivial ⟨_,by rw[hR2];rfl⟩ ?_;simp only[hR2,List.zip_toArray,List.zip_cons_cons,List.zip_nil_left,List.foldl_toArray,List.foldl_cons,List.foldl_nil,Ls];gi_wp2_with fail
  obtain⟨V1,hV1⟩: ∃V1,V1=V.putObj (b3+3+1) (.loop { R2 with state:= .busy }):=⟨_,rfl⟩;refine⟨V1,by rw[hV1];exact run_beginRound hl (by rw[hR2]),?_⟩;obtain⟨hJ1,hk1⟩:=hJ.step (V':=V1) (rec':= { R2 with state:= .busy }) (by omega) (b3+5) (by rw[hV1];exact(Spare.refl _ V).trans spare_put (fun b _ h=>h.1)) (by rw[hV1];exact ZD hl) (by rw[hV1];exact Qw ht (by omega)) hdf;have hvA:=hv.kc hk1;have HJ1:=hid hJ1;have HRR:=hid hRR;have HR2:=hid hR2;obtain⟨hl1, -, -, -, -,hx81,how1,hall1,ht1, -,hsz1, -⟩:=hJ1;have hc8:=hx81.cell;have hcT:=qa ht1 0;have hfT:=frozen_of_row V1 b3 0 _ _ ht1;clear hl hx8 how hall ht hV1 hRR hR2 hJ hv;by_cases hdB:d<mB+1
  ·have hvB:=(hall1 d hdB).mono (show b0+8≤b3+5 by omega);have hcv:=qdd how1 hdB;have HA:=hid hvA;have HB:=hid hvB;obtain⟨ge,oe,ce,ee, -⟩:=hvB;obtain⟨nB,hnB⟩:=Ex ((B.getD d []).length);rw[ee,hnB]at hcv HB;have hJ1:=HJ1.out;have hst:=qbq (A:=A) (B:=B) (m:=mA) (d:=d) (by omega);rw[if_pos (by omega)]at hst;have HST:=hid hst;have hdl:decide ((d:Int)<(mB:Int)+1)=true:=decide_eq_true (by omega);clear hvA ee hnB hst hJ1;gi_wp2_with fail
   refine⟨trivial,?_⟩;refine((callsIn_wide.2 (qeR (b3+5) (mA - d) (t.callsR kz z1 z2 xs (mA - d)) (B.getD d []) v _ V1 HA.out HB.out)).inRound (b3+3+1)).mono ?_;rintro e V2 ⟨hps,hb2⟩;have hJ2:=HJ1.out.below (by omega) hb2;have hk2:=hk1.trans (KC.of_below hb2);have hst:=HST.out;rw[hAg d (by omega)]at hst;obtain⟨dl,hdl2⟩:=Ex (Qo (t.callsR kz z1 z2 xs (mA - d)) (B.getD d []) 0);rw[hdl2]at hst hps;rcases dl with _|⟨ca,cb,ci⟩
   ·subst hps;obtain⟨hl2, -, -, -, -, -, -, -,ht2, -,hsz2, -⟩:=id hJ2;have hcT2:=qa ht2 0;have hfT2:=frozen_of_row V2 b3 0 _ _ ht2;have hs2:b3<V2.heap.size:=by omega
    gi_wp2_with fail
    have hl3:(V2.setCell ⟨b3,0,none⟩ (.int .i64 ((d:Int)+1))).heap[b3+3+1]? =some (.loop { R2 with state:= .busy }):=(Below.heap_setCell _ _ _ _ (by show b3+3+1≠b3;omega)).trans hl2;refine⟨_,_,run_endRound none hl3,HRR.out _ _ (.inl ⟨rfl,?_⟩)⟩;refine qew hk2 (hJ2.step (by omega) (b3+5) (((Spare.refl (fun k=>k≠b3+3+1∧k≠b3) V2).trans Yz (fun b _ h=>h.2)).trans spare_put (fun b _ h=>h.1)) ?_ ?_ (hdf.trans hst))
    ·exact(ZD hl3).trans (by rw[HR2.out];rfl)
    ·exact Qw (Boxed.set (.int .i64 ((d:Int)+1)) ht2) (by omega)
   ·obtain⟨cF,rfl,hF⟩:=hps;gi_wp2_with fail
    exact⟨rfl,HRR.out _ _ (.inr ⟨_,rfl,hJ2.found hF (hdf.trans hst)⟩)⟩
  ·have hs2:b3<V1.heap.size:=by omega
   have hd3:(d:Int)≤300:=by omega
   have hst:=qbq (A:=A) (B:=B) (m:=mA) (d:=d) (by omega);rw[if_neg (by omega)]at hst;gi_wp2_with fail
   have hl3:(V1.setCell ⟨b3,0,none⟩ (.int .i64 ((d:Int)+1))).heap[b3+3+1]? =some (.loop { R2 with state:= .busy }):=(Below.heap_setCell _ _ _ _ (by show b3+3+1≠b3;omega)).trans hl1;refine⟨_,_,run_endRound none hl3,HRR.out _ _ (.inl ⟨rfl,?_⟩)⟩;refine qew hk1 (HJ1.out.step (by omega) (b3+5) (((Spare.refl (fun k=>k≠b3+3+1∧k≠b3) V1).trans Yz (fun b _ h=>h.2)).trans spare_put (fun b _ h=>h.1)) ?_ ?_ (hdf.trans hst))
   ·exact(ZD hl3).trans (by rw[HR2.out];rfl)
   ·exact Qw (Boxed.set (.int .i64 ((d:Int)+1)) ht1) (by omega)
 rintro e W6 (⟨rfl,hJ⟩|⟨ch,rfl,hX⟩)
 ·obtain⟨hl,hD2,hD1,h6,h7, -, -, -, -,hbw,hsz,hdf⟩:=hJ;obtain⟨W7,hW7⟩: ∃W7,W7=W6.putObj (b3+3+1) (.loop { R2 with state:= .exhausted }):=⟨_,rfl⟩;refine⟨W7,by rw[hW7];exact(run_endLoop hl (by rw[hR2];exact fun h=>by cases h)).trans (by rw[hR2]),?_⟩;have hD27:W7.heap[b3+3]? =some (.deferred (some [])):=by rw[hW7];exact Qw hD2 (by omega)
  have hD17:W7.heap[b0+6]? =some (.deferred (some [])):=by rw[hW7];exact Qw hD1 (by omega)
  have h67:W7.heap[b0+1]? =some (.cells zeroF 68 (0,0)):=by rw[hW7];exact Qw h6 (by omega)
  have h77:W7.heap[b0+1+1]? =some (.cells #[.bool false] 4 (0,0)):=by rw[hW7];exact Qw h7 (by omega)
  have hbw7:Below b0 w W7:=hbw.trans (by rw[hW7];exact spare_put.below (by omega) (fun k hk=>by omega));have hs7:b3+5≤W7.heap.size:=by rw[hW7];exact Nat.le_trans hsz spare_put.size
  clear hD2 hD1 h6 h7 hbw hsz hW7 hl;have hdn:Qu A B mA=none:=by rw[hdf,List.drop_eq_nil_of_le (by omega)];rfl
  refine hn2 _ _ ?_;have c7:=qa h77 0;have f7:=frozen_of_row _ (b0+1+1) 0 _ _ h77;have s7:b0+1+1<W7.heap.size:=by omega
  refine QY fun K hK=>?_
  go_wp2_with ((with_reducible show wpList _ _ _ (Oper.mk none (Op.store 68 _ _) _ _ _ _::_) _ _);refine wpList_store_row rfl 68 _ _ rfl (b0+1) zeroF rfl rfl 68 zeroF h67 (by kernel_rfl) rfl (by kernel_rfl) ?_;have h77':(W7.setRow (b0+1) zeroF).heap[b0+1+1]? =some (.cells #[.bool false] 4 (0,0)):=(setRow_other W7 (b0+1) (b0+1+1) zeroF (by omega)).trans h77;have c7:=qa h77' 0;have f7:=frozen_of_row _ (b0+1+1) 0 _ _ h77';have s7:b0+1+1<(W7.setRow (b0+1) zeroF).heap.size:=(Ai h77').1)
  refine qeE ?_;go_wp2_with fail
  obtain⟨W8,hW8⟩:=Ex ((W7.setRow (b0+1) zeroF).setCell ⟨b0+1+1,0,none⟩ (.bool false));have hS8:Spare (fun k=>k≠b0+1∧k≠b0+1+1) W7 W8:=by
   rw[←hW8];exact((Spare.refl _ W7).trans (Spare.of_but (But.of_setRow W7 (b0+1) zeroF)) (fun b _ h=>h.1)).trans Yz (fun b _ h=>h.2)
  have h68:W8.heap[b0+1]? =some (.cells zeroF 68 (0,0)):=by rw[←hW8];exact(Below.heap_setCell _ _ _ _ (by show b0+1≠b0+1+1;omega)).trans (setRow_heap W7 (b0+1) zeroF zeroF _ _ h67)
  have h78:W8.heap[b0+1+1]? =some (.cells #[.bool false] 4 (0,0)):=by rw[←hW8];exact Boxed.set _ ((setRow_other W7 (b0+1) (b0+1+1) zeroF (by omega)).trans h77)
  have hD28:W8.heap[b3+3]? =some (.deferred (some [])):=(hS8.block _ (by omega) ⟨by omega,by omega⟩).trans hD27;have hD18:W8.heap[b0+6]? =some (.deferred (some [])):=(hS8.block _ (by omega) ⟨by omega,by omega⟩).trans hD17;rw[hW8,←hQQ];simp only[bodyPostM,LeavesInM];refine⟨by simp,.inl ⟨_,_,rfl,run_takeDeferred hD28,?_⟩⟩;refine⟨by simp,.inl ⟨_,_,rfl,run_takeDeferred (Qw hD18 (by omega)),?_⟩⟩;have hS:Spare (fun k=>k≠b3+3∧k≠b0+6) W8 ((W8.putObj (b3+3) (.deferred none)).putObj (b0+6) (.deferred none)):=((Spare.refl _ W8).trans spare_put (fun b _ h=>h.1)).trans spare_put (fun b _ h=>h.2);obtain⟨W9,hW9⟩:=Ex ((W8.putObj (b3+3) (.deferred none)).putObj (b0+6) (.deferred none));rw[hW9]at hS⊢;have h69:=(hS.block _ (Ai h68).1 ⟨by omega,by omega⟩).trans h68;have h79:=(hS.block _ (Ai h78).1 ⟨by omega,by omega⟩).trans h78;refine⟨by simp,.inr ⟨(fun h=>by cases h),_,_,67,#[.pointer (some ⟨b0+1,0,none⟩),.pointer (some ⟨b0+1+1,0,none⟩)],rfl,(by simp[invoke,go_sem,enters_of Tryz.func67 (by kernel_rfl) rfl]),fun g hg=>trivial,?_⟩⟩;refine(qb6 (b0+1) (b0+1+1) W9).mono ?_;rintro e u' w' ⟨rfl,rfl,rfl⟩
  refine⟨_,z6 (fn:=Tryz.f48) rfl _ _ (b0+1) (b0+1+1) zeroF false rfl rfl h69 rfl h79,?_,?_⟩
  ·rw[hdn];exact⟨_,rfl⟩
  ·rw[hb0];exact hbw7.trans ((hS8.below (by omega) fun k hk=>⟨by omega,by omega⟩).trans (hS.below (by have:=hS8.size;omega) fun k hk=>⟨by omega,by omega⟩))
 ·refine hp2 _ _ _ ?_;obtain⟨s,c,a,b,row,i,rfl,hF,hdf,hD2,hD1,h6,h7,hbw⟩:=hX;rw[←hQQ];simp only[bodyPostM,LeavesInM];refine⟨by simp,.inl ⟨_,_,rfl,run_takeDeferred hD2,?_⟩⟩;refine⟨by simp,.inl ⟨_,_,rfl,run_takeDeferred (Qw hD1 (by omega)),?_⟩⟩;have hS:Spare (fun k=>k≠b3+3∧k≠b0+6) W6 ((W6.putObj (b3+3) (.deferred none)).putObj (b0+6) (.deferred none)):=((Spare.refl _ W6).trans spare_put (fun b _ h=>h.1)).trans spare_put (fun b _ h=>h.2);have hkc:KC s W6 ((W6.putObj (b3+3) (.deferred none)).putObj (b0+6) (.deferred none)):=Q8 hS fun k c T fr hk hn=>by
   by_cases e1:k=b3+3
   ·rw[e1,hD2]at hk;cases hk
   by_cases e2:k=b0+6
   ·rw[e2,hD1]at hk;cases hk
   ·exact absurd ⟨e1,e2⟩ hn
  obtain⟨W8,hW8⟩:=Ex ((W6.putObj (b3+3) (.deferred none)).putObj (b0+6) (.deferred none));rw[hW8]at hS hkc⊢;have h68:=(hS.block _ (Ai h6).1 ⟨by omega,by omega⟩).trans h6;have h78:=(hS.block _ (Ai h7).1 ⟨by omega,by omega⟩).trans h7;have hF8:=hF.kc hkc;have hb8:Below b0 w W8:=hbw.trans (hS.below (by have:=hbw.size;omega) fun k hk=>⟨by omega,by omega⟩);refine⟨by simp,.inr ⟨(fun h=>by cases h),_,_,67,#[.pointer (some ⟨b0+1,0,none⟩),.pointer (some ⟨b0+1+1,0,none⟩)],rfl,(by simp[invoke,go_sem,enters_of Tryz.func67 (by kernel_rfl) rfl]),fun g hg=>trivial,?_⟩⟩;refine(qa6 (b0+1) (b0+1+1) c zeroF hF8.size rfl hF8.one false [] W8 h68 h78 (by omega)).mono ?_;rintro e u' w' ⟨rfl,rfl,rfl⟩
  have hS9:Spare (fun k=>k≠b0+1∧k≠b0+1+1) W8 ((W8.setRow (b0+1) c).setCell ⟨b0+1+1,0,none⟩ (.bool true)):=((Spare.refl _ W8).trans (Spare.of_but (But.of_setRow W8 (b0+1) c)) (fun b _ h=>h.1)).trans Yz (fun b _ h=>h.2);have h69:((W8.setRow (b0+1) c).setCell ⟨b0+1+1,0,none⟩ (.bool true)).heap[b0+1]? =some (.cells c 68 (0,0)):=(Below.heap_setCell _ _ _ _ (by show b0+1≠b0+1+1;omega)).trans (setRow_heap W8 (b0+1) zeroF c _ _ h68);have h79:((W8.setRow (b0+1) c).setCell ⟨b0+1+1,0,none⟩ (.bool true)).heap[b0+1+1]? =some (.cells #[.bool true] 4 (0,0)):=Boxed.set _ ((setRow_other W8 (b0+1) (b0+1+1) c (by omega)).trans h78);refine⟨_,z6 (fn:=Tryz.f48) rfl _ _ (b0+1) (b0+1+1) c true rfl rfl h69 hF8.size h79,?_,?_⟩
  ·rw[hdf];refine⟨s,c,rfl,hF8.kc (Q8 hS9 fun k c' T fr hk hn=>?_)⟩;by_cases e1:k=b0+1
   ·rw[e1,h68]at hk;simp only[Option.some.injEq,Obj.cells.injEq]at hk;obtain⟨rfl,rfl, -⟩:=hk;exact⟨by decide,by decide,by decide,by decide,by decide,fun _ i z=>qaW i z⟩
   by_cases e2:k=b0+1+1
   ·rw[e2,h78]at hk;simp only[Option.some.injEq,Obj.cells.injEq]at hk;obtain⟨rfl,rfl, -⟩:=hk;exact⟨by decide,by decide,by decide,by decide,by decide,fun _ i z hz=>by rcases i with _|i<;>simp at hz⟩
   ·exact absurd ⟨e1,e2⟩ hn
  ·rw[hb0];exact hb8.trans (hS9.below (by have:=hb8.size;omega) fun k hk=>⟨by omega,by omega⟩)
theorem qbH (xs ys dx dy:List Int)(a b x y:Value)(v:Int)(w:World)(ha:Hold w a xs)(hb:Hold w b ys)(hx:Hold w x dx)(hy:Hold w y dy):
  Calls Tryz.prog 47 #[a,b,x,y,.int .i64 v] w fun e w'=>e= .returned (.int .i64 (if v≠0 then v else if xs=ys then 120 else if dx=dy then 0 else 6))∧w'=w:=by
 by_cases h0:v≠0
 ·rw[if_pos h0];have h:(v != 0)=true:=by rw[bne_iff_ne];exact h0
  clear ha hb hx hy h0;go_enter Tryz.func47,Tryz.ntmps47
  go_wp2_with fail
  go_ret
  exact⟨rfl,rfl⟩
 rw[if_neg h0];have h:(v != 0)=false:=by rw[bne_eq_false_iff_eq];exact Decidable.byContradiction h0
 clear h0;have HS1:=hid (zH xs ys a b w ha hb);have HS2:=hid (zH dx dy x y w hx hy);clear ha hb hx hy;by_cases h1:xs=ys
 ·rw[if_pos h1];have e1:decide (xs=ys)=true:=decide_eq_true h1;clear h1;go_enter Tryz.func47,Tryz.ntmps47
  go_wp2_with fail
  refine HS1.out.mono ?_;rintro e w1 ⟨rfl,rfl⟩;rw[e1];go_wp2_with fail
  go_ret
  exact⟨rfl,rfl⟩
 rw[if_neg h1];have e1:decide (xs=ys)=false:=decide_eq_false h1;clear h1;by_cases h2:dx=dy
 ·rw[if_pos h2];have e2:decide (dx=dy)=true:=decide_eq_true h2;clear h2;go_enter Tryz.func47,Tryz.ntmps47
  go_wp2_with fail
  refine HS1.out.mono ?_;rintro e w1 ⟨rfl,rfl⟩;rw[e1];go_wp2_with fail
  refine HS2.out.mono ?_;rintro e w1 ⟨rfl,rfl⟩;rw[e2];go_wp2_with fail
  go_ret
  exact⟨rfl,rfl⟩
 ·rw[if_neg h2];have e2:decide (dx=dy)=false:=decide_eq_false h2;clear h2;go_enter Tryz.func47,Tryz.ntmps47
  go_wp2_with fail
  refine HS1.out.mono ?_;rintro e w1 ⟨rfl,rfl⟩;rw[e1];go_wp2_with fail
  refine HS2.out.mono ?_;rintro e w1 ⟨rfl,rfl⟩;rw[e2];go_wp2_with fail
  go_ret
  exact⟨rfl,rfl⟩
def TreeV.clashE (t:TreeV)(kz z1 z2 xs ys:List Int):Int:=if t.validE≠0 then t.validE else if xs=ys then 120 else if t.digZ kz z1 z2 xs=t.digZ kz z1 z2 ys then 0 else 6
noncomputable def TreeV.diffT (t:TreeV)(kz z1 z2 xs ys:List Int):Option (CallS×CallS×Nat×Nat):=Qu (t.downC kz z1 z2 xs ((t.rowsOf xs.length).length - 1)) (t.downC kz z1 z2 ys ((t.rowsOf ys.length).length - 1)) ((t.rowsOf xs.length).length - 1)
theorem Jb {fn:Func}{p u:Tmp}(h:fn.results= #[.cell p 68,.tmp u])(tmps:Array Value)(w:World)(g:Nat)(cs:Array Value)(hp:tmps.getD p undef= .pointer (some ⟨g,0,none⟩))(h6:w.heap[g]? =some (.cells cs 68 (0,0)))(hc:cs.size=14):(results fn tmps).run Tryz.prog w= .ok (.tuple #[.agg cs,tmps.getD u undef]) w:=by
 have hp':tmps[p]?.getD undef= .pointer (some ⟨g,0,none⟩):=by simpa using hp
 have e1:=run_loadVar_row (P:=Tryz.prog) w g 68 68 cs (0,0) _ h6 Tryz.underlying68 rfl (by rw[hc];kernel_rfl);simp[results,h,hp',asAddr,e1,Sem.run_bind,Result.andThen]
def qeB (t:TreeV)(kz z1 z2 xs ys:List Int)(e:Ending)(W:World):Prop:= ∃c,e= .returned (.tuple #[.agg c,.int .i64 (t.clashE kz z1 z2 xs ys)])∧((t.clashE kz z1 z2 xs ys≠0∧c=zeroF)∨(t.clashE kz z1 z2 xs ys=0∧ ∃s a b row i,t.diffT kz z1 z2 xs ys=some (a,b,row,i)∧FoundC s W c a b row i))
theorem qe1 (t:TreeV)(kz z1 z2 xs ys:List Int)(xa ya:Option Addr)(xc yc:Nat)(w:World)(hl:0≤t.l∧t.l≤4294967295)(hk:Hold w (.slice t.ka t.kl t.kc) kz)(hs:Hold w (.slice t.sa t.sl t.sc) z1)(hp:Hold w (.slice t.pa t.pl t.pc) z2)(hx:Hold w (.slice xa xs.length xc) xs)(hy:Hold w (.slice ya ys.length yc) ys)(hxn:xs.length≤4194304)(hyn:ys.length≤4194304)(E:Int)(hE:(if t.validE≠0 then t.validE else if xs=ys then 120 else if t.digZ kz z1 z2 xs=t.digZ kz z1 z2 ys then 0 else 6)=E)(h0:E≠0):
  Calls Tryz.prog 30 #[t.val,.slice xa xs.length xc,.slice ya ys.length yc] w fun e w'=>e= .returned (.tuple #[.agg zeroF,.int .i64 E])∧Below w.heap.size w w':=by
 have h1:(E != 0)=true:=by rw[bne_iff_ne];exact h0
 clear h0;obtain⟨b0,hb0⟩:=Ex w.heap.size;have HHX:=hid (fun(W:World) (hb:Below b0 w W)=>YC t kz z1 z2 xs (.slice xa xs.length xc) W hl (hk.below (hb0▸hb)) (hs.below (hb0▸hb)) (hp.below (hb0▸hb)) (hx.below (hb0▸hb)) hxn);have HHY:=hid (fun(W:World) (hb:Below b0 w W)=>YC t kz z1 z2 ys (.slice ya ys.length yc) W hl (hk.below (hb0▸hb)) (hs.below (hb0▸hb)) (hp.below (hb0▸hb)) (hy.below (hb0▸hb)) hyn);have HX:=hid hx;have HYY:=hid hy;have HTT:=hid (And.intro hl (And.intro hk (And.intro hs hp)));have HE:=hid hE;clear hx hy hl hk hs hp hE;unfold TreeV.val;go_enter Tryz.func30,Tryz.ntmps30
 go_upto_region 1 with(fail)
 refine qj ?_;intro wA hwA;have hrA:wA.heap[b0]? =some (.cells #[.int .i64 t.k,.int .i64 t.d,.int .i64 t.f,.int .i64 t.p,.int .u32 t.l,.int .i64 t.i,.slice t.ka t.kl t.kc,.slice t.sa t.sl t.sc,.slice t.pa t.pl t.pc] 26 (0,0)):=by rw[hwA];exact Q3 (qN hb0)
 have hfA:wA.heap[b0+1]? =some (.cells zeroF 68 (0,0)):=by rw[hwA];exact qN (by rw[qw,hb0])
 have hsA:wA.heap.size=b0+2:=by rw[hwA,qw,qw,hb0]
 have hbA:Below b0 w wA:=by rw[hwA,←hb0];exact(Br.alloc Nl _).alloc (by simp) _
 clear hwA;go_wp2_with ((with_reducible show wpList _ _ _ (Oper.mk _ (Op.load 26 _) _ _ _ _::_) _ _);refine wpList_load_row rfl 26 _ rfl b0 rfl _ _ _ _ hrA Tryz.underlying26 rfl (by kernel_rfl) ?_)
 refine(HHX.out _ hbA).mono ?_;rintro e w1 ⟨u1,rfl,ho1,hb1⟩;rw[hsA]at hb1;have hr1:=(hb1.block _ (by omega)).trans hrA;have hf1:=(hb1.block _ (by omega)).trans hfA;have hs1:b0+2≤w1.heap.size:=by have:=hb1.size;omega
 have hbW1:=hbA.trans (hb1.mono (by omega));clear hrA hfA hbA hb1;go_upto_region 2 with(fail)
 go_wp2_with ((with_reducible show wpList _ _ _ (Oper.mk _ (Op.load 26 _) _ _ _ _::_) _ _);refine wpList_load_row rfl 26 _ rfl b0 rfl _ _ _ _ hr1 Tryz.underlying26 rfl (by kernel_rfl) ?_)
 refine(HHY.out _ hbW1).mono ?_;rintro e w2 ⟨u2,rfl,ho2,hb2⟩;have hr2:=qb hr1 hb2;have hf2:=qb hf1 hb2;have hs2:b0+2≤w2.heap.size:=by have:=hb2.size;omega
 have hbW2:=hbW1.trans (hb2.mono (by omega));have hU1:=ho1.hold.below hb2;have hU2:=ho2.hold;clear hr1 hf1 ho1 ho2 hb2 hbW1;have HAS:=hid (qbH xs ys _ _ (.slice xa xs.length xc) (.slice ya ys.length yc) u1 u2 t.validE w2 (HX.out.below (hb0▸hbW2)) (HYY.out.below (hb0▸hbW2)) hU1 hU2);clear hU1 hU2;go_wp2_with fail
 refine HAS.out.mono ?_;rintro e w2 ⟨rfl,rfl⟩;rw[HE.out];go_wp2_with ((with_reducible show wpList _ _ _ (Oper.mk none (Op.store 68 _ _) _ _ _ _::_) _ _);refine wpList_store_row rfl 68 _ _ rfl (b0+1) zeroF rfl rfl 68 zeroF hf2 (by kernel_rfl) rfl (by kernel_rfl) ?_)
 refine Bp (Jb (fn:=Tryz.f30) rfl _ _ (b0+1) zeroF rfl (setRow_heap w2 (b0+1) zeroF zeroF _ _ hf2) rfl) rfl ?_;exact⟨rfl,by rw[hb0];exact hbW2.trans ((Spare.of_but (But.of_setRow w2 (b0+1) zeroF)).below (by omega) fun k hk=>by omega)⟩
theorem qes (t:TreeV)(kz z1 z2 xs ys:List Int)(xa ya:Option Addr)(xc yc:Nat)(w:World)(hl:0≤t.l∧t.l≤4294967295)(hk:Hold w (.slice t.ka t.kl t.kc) kz)(hs:Hold w (.slice t.sa t.sl t.sc) z1)(hp:Hold w (.slice t.pa t.pl t.pc) z2)(hx:Hold w (.slice xa xs.length xc) xs)(hy:Hold w (.slice ya ys.length yc) ys)(hxn:xs.length≤4194304)(hyn:ys.length≤4194304)(hv:t.validE=0)(hE:(if t.validE≠0 then t.validE else if xs=ys then 120 else if t.digZ kz z1 z2 xs=t.digZ kz z1 z2 ys then 0 else 6)=0)(a b:CallS)(row i:Nat)(hd:t.diffT kz z1 z2 xs ys=some (a,b,row,i)):
  Calls Tryz.prog 30 #[t.val,.slice xa xs.length xc,.slice ya ys.length yc] w fun e w'=>(∃s c,e= .returned (.tuple #[.agg c,.int .i64 0])∧FoundC s w' c a b row i)∧Below w.heap.size w w':=by
 have HSE:=hid (fun(W:World) (hb:Below w.heap.size w W)=>(qc7 t kz z1 z2 xs ys xa ya xc yc W ⟨hv,hl,hk.below hb,hs.below hb,hp.below hb⟩ (hx.below hb) (hy.below hb) hxn hyn _ _ rfl rfl).mono (R':=fun e W'=>(∃s c,e= .returned (.tuple #[.agg c,.bool true])∧FoundC s W' c a b row i)∧Below W.heap.size W W') (by
  rintro e W' ⟨h1,h2⟩
  refine⟨?_,h2⟩;unfold TreeV.diffT at hd;rw[hd]at h1;exact h1))
 clear hd hv;obtain⟨b0,hb0⟩:=Ex w.heap.size;have HHX:=hid (fun(W:World) (hb:Below b0 w W)=>YC t kz z1 z2 xs (.slice xa xs.length xc) W hl (hk.below (hb0▸hb)) (hs.below (hb0▸hb)) (hp.below (hb0▸hb)) (hx.below (hb0▸hb)) hxn);have HHY:=hid (fun(W:World) (hb:Below b0 w W)=>YC t kz z1 z2 ys (.slice ya ys.length yc) W hl (hk.below (hb0▸hb)) (hs.below (hb0▸hb)) (hp.below (hb0▸hb)) (hy.below (hb0▸hb)) hyn);have HX:=hid hx;have HYY:=hid hy;have HTT:=hid (And.intro hl (And.intro hk (And.intro hs hp)));have HE:=hid hE;clear hx hy hl hk hs hp hE;unfold TreeV.val;go_enter Tryz.func30,Tryz.ntmps30
 go_upto_region 1 with(fail)
 refine qj ?_;intro wA hwA;have hrA:wA.heap[b0]? =some (.cells #[.int .i64 t.k,.int .i64 t.d,.int .i64 t.f,.int .i64 t.p,.int .u32 t.l,.int .i64 t.i,.slice t.ka t.kl t.kc,.slice t.sa t.sl t.sc,.slice t.pa t.pl t.pc] 26 (0,0)):=by rw[hwA];exact Q3 (qN hb0)
 have hfA:wA.heap[b0+1]? =some (.cells zeroF 68 (0,0)):=by rw[hwA];exact qN (by rw[qw,hb0])
 have hsA:wA.heap.size=b0+2:=by rw[hwA,qw,qw,hb0]
 have hbA:Below b0 w wA:=by rw[hwA,←hb0];exact(Br.alloc Nl _).alloc (by simp) _
 clear hwA;go_wp2_with ((with_reducible show wpList _ _ _ (Oper.mk _ (Op.load 26 _) _ _ _ _::_) _ _);refine wpList_load_row rfl 26 _ rfl b0 rfl _ _ _ _ hrA Tryz.underlying26 rfl (by kernel_rfl) ?_)
 refine(HHX.out _ hbA).mono ?_;rintro e w1 ⟨u1,rfl,ho1,hb1⟩;rw[hsA]at hb1;have hr1:=(hb1.block _ (by omega)).trans hrA;have hf1:=(hb1.block _ (by omega)).trans hfA;have hs1:b0+2≤w1.heap.size:=by have:=hb1.size;omega
 have hbW1:=hbA.trans (hb1.mono (by omega));clear hrA hfA hbA hb1;go_upto_region 2 with(fail)
 go_wp2_with ((with_reducible show wpList _ _ _ (Oper.mk _ (Op.load 26 _) _ _ _ _::_) _ _);refine wpList_load_row rfl 26 _ rfl b0 rfl _ _ _ _ hr1 Tryz.underlying26 rfl (by kernel_rfl) ?_)
 refine(HHY.out _ hbW1).mono ?_;rintro e w2 ⟨u2,rfl,ho2,hb2⟩;have hr2:=qb hr1 hb2;have hf2:=qb hf1 hb2;have hs2:b0+2≤w2.heap.size:=by have:=hb2.size;omega
 have hbW2:=hbW1.trans (hb2.mono (by omega));have hU1:=ho1.hold.below hb2;have hU2:=ho2.hold;clear hr1 hf1 ho1 ho2 hb2 hbW1;have HAS:=hid (qbH xs ys _ _ (.slice xa xs.length xc) (.slice ya ys.length yc) u1 u2 t.validE w2 (HX.out.below (hb0▸hbW2)) (HYY.out.below (hb0▸hbW2)) hU1 hU2);clear hU1 hU2;go_wp2_with fail
 refine HAS.out.mono ?_;rintro e w2 ⟨rfl,rfl⟩;rw[HE.out];go_upto_region 6 with(fail)
 go_wp2_with ((with_reducible show wpList _ _ _ (Oper.mk _ (Op.load 26 _) _ _ _ _::_) _ _);refine wpList_load_row rfl 26 _ rfl b0 rfl _ _ _ _ hr2 Tryz.underlying26 rfl (by kernel_rfl) ?_)
 refine(HSE.out w2 (by rw[hb0];exact hbW2)).mono ?_;rintro e w3 ⟨⟨s,c,rfl,hF⟩,hb3⟩;have hf3:=qb hf2 hb3;have hs3:b0+2≤w3.heap.size:=by have:=hb3.size;omega
 have hbW3:=hbW2.trans (hb3.mono (by omega));clear hr2 hf2 hb3 hbW2 HAS HSE;have hcs:=hF.size;have hc1:=hF.one;have hoc:zeroF.size=c.size:=by rw[hcs];rfl
 have hfi:(Tryz.prog.info? 68).map (·.size)=some c.size:=by rw[hcs];kernel_rfl
 obtain⟨b4,hb4⟩:=Ex w3.heap.size;go_upto_region 7 with((with_reducible show wpList _ _ _ (Oper.mk none (Op.store 68 _ _) _ _ _ _::_) _ _);refine wpList_store_row rfl 68 _ _ rfl b4 c rfl rfl 68 zeroF (qN hb4) hfi hoc hc1 ?_)
 refine qj ?_;intro wD hwD;have h4D:wD.heap[b4]? =some (.cells c 68 (0,0)):=by rw[hwD];exact setRow_heap _ b4 zeroF c _ _ (qN hb4)
 have hBD:Below b4 w3 wD:=by rw[hwD];exact(show Below b4 w3 (w3.alloc (.cells zeroF 68)) by rw[←hb4];exact Br.alloc Nl _).trans ((Spare.of_but (But.of_setRow _ b4 c)).below (by rw[qw];omega) fun k hk=>by omega)
 have hfD:=(hBD.block _ (by omega)).trans hf3;have hF4:=hF.kc (KC.of_below (by rw[hb4];exact hBD));have hbD:=hbW3.trans (hBD.mono (by omega));have hsD:=hBD.size;clear hwD hf3 hF hBD hbW3;go_wp2_with (first|((with_reducible show wpList _ _ _ (Oper.mk none (Op.store 68 _ _) _ _ _ _::_) _ _);refine wpList_store_row rfl 68 _ _ rfl (b0+1) c rfl rfl 68 zeroF hfD hfi hoc hc1 ?_)|((with_reducible show wpList _ _ _ (Oper.mk _ (Op.load 68 _) _ _ _ _::_) _ _);refine wpList_load_row rfl 68 _ rfl b4 rfl _ c _ _ h4D Tryz.underlying68 rfl hfi ?_))
 refine Bp (Jb (fn:=Tryz.f30) rfl _ _ (b0+1) c rfl (setRow_heap wD (b0+1) zeroF c _ _ hfD) hcs) rfl ?_;have hS:=Spare.of_but (But.of_setRow wD (b0+1) c);refine⟨⟨s,c,rfl,hF4.kc (Q8 hS fun k c' T fr hk hn=>?_)⟩,?_⟩
 ·have e:k=b0+1:=Decidable.byContradiction hn;rw[e,hfD]at hk;simp only[Option.some.injEq,Obj.cells.injEq]at hk;obtain⟨rfl,rfl, -⟩:=hk;exact⟨by decide,by decide,by decide,by decide,by decide,fun _ i z=>qaW i z⟩
 ·rw[hb0];exact hbD.trans (hS.below (by omega) fun k hk=>by omega)
theorem qae {W:World}{a:Option Addr}{n c:Nat}{zs:List Int}(h:Hold W (.slice a n c) zs):n=zs.length:=by
 obtain⟨a',c',e, -⟩:=h.slice;simp only[Value.slice.injEq]at e;exact e.2.1
theorem qet (t:TreeV)(kz z1 z2 xs ys:List Int)(xa ya:Option Addr)(xc yc:Nat)(w:World)(hl:0≤t.l∧t.l≤4294967295)(hk:Hold w (.slice t.ka t.kl t.kc) kz)(hs:Hold w (.slice t.sa t.sl t.sc) z1)(hp:Hold w (.slice t.pa t.pl t.pc) z2)(hx:Hold w (.slice xa xs.length xc) xs)(hy:Hold w (.slice ya ys.length yc) ys)(hxn:xs.length≤4194304)(hyn:ys.length≤4194304):
  Calls Tryz.prog 30 #[t.val,.slice xa xs.length xc,.slice ya ys.length yc] w fun e w'=>qeB t kz z1 z2 xs ys e w'∧Below w.heap.size w w':=by
 by_cases hE:t.clashE kz z1 z2 xs ys=0
 ·have hv:t.validE=0:=by
   unfold TreeV.clashE at hE;by_cases h:t.validE=0
   ·exact h
   ·rw[if_pos h]at hE;exact hE
  have hne:xs≠ys:=by
   intro e;unfold TreeV.clashE at hE;rw[if_neg (by rw[hv];exact fun h=>h rfl),if_pos e]at hE
   cases hE
  have hvf:=qd hv;have hbg:=QT hv;have h1:=qae hs;have h2:=qae hp
  cases hd:t.diffT kz z1 z2 xs ys with
  | none=>exact absurd (qcn hv hl (by omega) (by omega) hxn hyn hd) hne
  | some r=>
   obtain⟨a,b,row,i⟩:=r;refine(qes t kz z1 z2 xs ys xa ya xc yc w hl hk hs hp hx hy hxn hyn hv hE a b row i hd).mono ?_;rintro e w' ⟨⟨s,c,rfl,hF⟩,hb⟩
   exact⟨⟨c,by rw[hE],.inr ⟨hE,s,a,b,row,i,hd,hF⟩⟩,hb⟩
 ·refine(qe1 t kz z1 z2 xs ys xa ya xc yc w hl hk hs hp hx hy hxn hyn _ rfl hE).mono ?_;rintro e w' ⟨rfl,hb⟩
  exact⟨⟨zeroF,rfl,.inl ⟨hE,rfl⟩⟩,hb⟩
end Go.Proofs.YtdndeffmlhaipaaGreatDoor
