/- What the program takes from a block of parameters, of both kinds. No condition. -/
import Derived.Test.YthjoojnlnlmljaaGreatP00
import Derived.Test.YthjoojnlnlmljaaGreatP01
import Derived.Test.YthjoojnlnlmljaaGreatB26
import Derived.Test.YthjoojnlnlmljaaGreatB27
import Derived.Test.YthjoojnlnlmljaaGreatB25
import Derived.Test.YthjoojnlnlmljaaGreatB04
import Derived.Laws.OwnMore
import Derived.Test.YthjoojnlnlmljaaGreatB24
import Derived.Test.YthjoojnlnlmljaaGreatB23
import Derived.Test.YthjoojnlnlmljaaGreatB19
import Derived.Test.YthjoojnlnlmljaaGreatB22
set_option linter.all false
set_option maxRecDepth 100000
set_option maxHeartbeats 8000000
namespace Go.Proofs.YthjoojnlnlmljaaGreat
open Go.ChangeShapes Go.WideShapes Go.ChangeAt Go.RowKit Go.Joins Go.Shelf Go.Maps
open Go.Lib (hid)
attribute [local go_sem] Oper.semAt_some
def okD (big ext:Bool)(zs:List Int):Prop:=zs.length=mB big∧(big=true→ ∀i,18≤i→i<32→qp zs i=0)∧(ext=true→xoZ big ext zs≠0)∧okC big (qp zs 0) (qp zs 1) (qp zs 3) (xoZ big ext zs) (qp zs (atB big 9))
theorem qdc (big:Bool)(zs:List Int)(v:Value)(w:World)(h:Holds8 w v zs)(Y: ∀z∈zs,0≤z∧z≤255)(I: ∀a n c,v= .slice a n c→n≤c∧(c:Int)≤9223372036854775807)(aa:okD big false zs):
  Calls Tryz.prog 97 #[.int .i64 (kB big),v,.bool false] w fun e w'=>(∃fo dp lf Z nd J sa S,e= .returned (.tuple #[parV (qp zs 0) (qp zs 1) fo dp lf Z 0 nd J sa S,.int .i64 0])∧sa.oneCell'=true∧S.oneCell'=true)∧Below w.heap.size w w':=by
 obtain⟨a,G,rfl,h⟩:=h;obtain⟨r,hm, -,V,k1,O,X⟩:=aa;obtain⟨b,off,rfl,U⟩:=h.resolve_left (fun e=>by rw[e]at r;cases big<;>simp[mB]at r);obtain⟨q,D⟩:=I _ _ _ rfl
 cases big
 ·have o:zs.length=32:=r;rw[o]at q⊢;exact JB zs b off G w U Y q D o V k1.2 (O rfl) X.2
 ·have o:zs.length=64:=r;rw[o]at q⊢;exact J1 zs b off G w U Y q D o (hm rfl) V k1.2 (O rfl) X.2
end Go.Proofs.YthjoojnlnlmljaaGreat
namespace Go.Proofs.YthjoojnlnlmljaaGreat
open Go.ChangeShapes Go.WideShapes Go.ChangeAt Go.RowKit Go.Joins Go.Shelf Go.Maps
open Go.Lib (hid)
def szE (big ext:Bool)(f:Nat):Nat:=if f=6∧ext=true then 4 else szB big f
theorem yd (big ext:Bool)(f:Nat)(o:1≤f)(q:f≤9):1≤szE big ext f∧szE big ext f≤8∧atB big f+szE big ext f≤18∧(big=false→atB big f+szE big ext f≤16):=by
 have h:f=1∨f=2∨f=3∨f=4∨f=5∨f=6∨f=7∨f=8∨f=9:=by omega
 rcases h with rfl|rfl|rfl|rfl|rfl|rfl|rfl|rfl|rfl<;>cases big<;>cases ext<;>decide
def yi (big ext:Bool)(zs:List Int)(f:Nat):Int:=if f=0 then 0 else qO zs (atB big f) (szE big ext f)
def JA (big ext:Bool)(zs:List Int):Nat→List Value
 | 0=>[]
 | k+1=>JA big ext zs k++[.int .u64 (yi big ext zs k)]
theorem Zj (big ext:Bool)(zs:List Int): ∀k,(JA big ext zs k).length=k
 | 0=>rfl
 | k+1=>by simp[JA,Zj big ext zs k]
theorem QJ (big ext:Bool)(zs:List Int): ∀k j,j<k→(JA big ext zs k)[j]? =some (.int .u64 (yi big ext zs j))
 | 0,j,h=>by omega
 | k+1,j,h=>by
  rw[JA];by_cases e:j=k
  ·subst e;rw[List.getElem?_append_right (by rw[Zj];exact Nat.le_refl _),Zj];simp
  ·rw[List.getElem?_append_left (by rw[Zj];omega)];exact QJ big ext zs k j (by omega)
theorem qY {big ext:Bool}{zs:List Int}(q: ∀z∈zs,0≤z∧z≤255)(G:zs.length=mB big){f:Nat}(o:1≤f)(r:f≤9):0≤yi big ext zs f∧yi big ext zs f<2^(8*szE big ext f):=by
 unfold yi;rw[if_neg (by omega)];have:=yd big ext f o r
 have D:32≤mB big:=by cases big<;>decide
 exact Qy q _ (by omega)
theorem zF (zs:List Int)(a:Nat):qO zs a 1=qp zs a:=by simp[qO]
theorem qjR {W:World}{B:Nat}{v:Value}{xs:List Value}(h:W.ownsRow B 44 1 v 10 xs): ∃g q o,v= .slice (some ⟨g,0,none⟩) 10 q∧B≤g∧W.heap[g]? =some (.cells o 44 (0,0))∧10≤o.size∧ ∀j,j<10→o[j]? =xs[j]? :=by
 rcases h.2 with⟨-,r⟩|⟨g,q,o,rfl,D,G,O,S,U,I⟩
 ·cases r
 ·refine⟨g,q,o,rfl,D,G,by omega,fun j J=>?_⟩;rw[←I,List.getElem?_take,if_pos (by omega),Array.getElem?_toList]
end Go.Proofs.YthjoojnlnlmljaaGreat
namespace Go.Proofs.YthjoojnlnlmljaaGreat
open Go.ChangeShapes Go.WideShapes Go.ChangeAt Go.RowKit Go.Joins Go.Shelf Go.Maps
open Go.Lib (hid)
attribute [local go_sem] Oper.semAt_some
theorem jo (zs:List Int)(b off o:Nat)(w:World)(hB:Qx w b off zs)(hz: ∀z∈zs,0≤z∧z≤255)(ca:64≤o)(b9:(o:Int)≤9223372036854775807)(hl:zs.length=64)(bD: ∀i,18≤i→i<32→qp zs i=0)(bS:1≤qp zs 0∧qp zs 0≤64)(ag:qp zs 1≤64)(bI:1≤qp zs 3)(bJ:qp zs 17≤64):
  Calls Tryz.prog 152 #[.int .i64 1,.slice (some ⟨b,off,none⟩) 64 o,.bool false] w fun e w'=>(∃sa pe,e= .returned (.tuple #[parV (qp zs 0) (qp zs 1) (qp zs 2) (qp zs 3) (qO zs 4 4) (qO zs 8 8) 0 (qp zs 16) (qp zs 17) sa pe,.int .i64 0])∧w'.ownsRow w.heap.size 5 1 sa (Qp ((zs.drop 32).take 16) 16) ((((zs.drop 32).take 16).take (Qp ((zs.drop 32).take 16) 16)).map qo)∧w'.ownsRow w.heap.size 5 1 pe (Qp ((zs.drop 48).take 16) 16) ((((zs.drop 48).take 16).take (Qp ((zs.drop 48).take 16) 16)).map qo))∧Below w.heap.size w w':=by
 obtain⟨h1,h2⟩:=id hB;have HC:=hid h2;have HB:=hid hB;clear h2 hB;obtain⟨i0,hi,br,bf,be⟩:=info_parts qbZ;obtain⟨X,aA⟩:=Ex (yi true false zs 1);have ch:0≤X∧X<256:=by have:=qY (big:=true) (ext:=false) hz hl (f:=1) (by omega) (by omega);rw[aA]at this;simpa [szE,szB] using this
 have aZ:qp zs 0=X:=by rw[←aA];simp[yi,szE,szB,atB,zF]
 rw[aZ]at bS;try rw[aZ]
 obtain⟨V2,ar⟩:=Ex (yi true false zs 2);have ck:0≤V2∧V2<256:=by have:=qY (big:=true) (ext:=false) hz hl (f:=2) (by omega) (by omega);rw[ar]at this;simpa [szE,szB] using this
 have a6:qp zs 1=V2:=by rw[←ar];simp[yi,szE,szB,atB,zF]
 rw[a6]at ag;try rw[a6]
 obtain⟨U,aw⟩:=Ex (yi true false zs 3);have cu:0≤U∧U<256:=by have:=qY (big:=true) (ext:=false) hz hl (f:=3) (by omega) (by omega);rw[aw]at this;simpa [szE,szB] using this
 have a7:qp zs 2=U:=by rw[←aw];simp[yi,szE,szB,atB,zF]
 try rw[a7]
 obtain⟨S,aD⟩:=Ex (yi true false zs 4);have cx:0≤S∧S<256:=by have:=qY (big:=true) (ext:=false) hz hl (f:=4) (by omega) (by omega);rw[aD]at this;simpa [szE,szB] using this
 have aX:qp zs 3=S:=by rw[←aD];simp[yi,szE,szB,atB,zF]
 rw[aX]at bI;try rw[aX]
 obtain⟨Y,au⟩:=Ex (yi true false zs 5);have ct:0≤Y∧Y<4294967296:=by have:=qY (big:=true) (ext:=false) hz hl (f:=5) (by omega) (by omega);rw[au]at this;simpa [szE,szB] using this
 have bb:qO zs 4 4=Y:=by rw[←au];simp[yi,szE,szB,atB,zF]
 try rw[bb]
 obtain⟨V6,av⟩:=Ex (yi true false zs 6);have cf:0≤V6∧V6<18446744073709551616:=by have:=qY (big:=true) (ext:=false) hz hl (f:=6) (by omega) (by omega);rw[av]at this;simpa [szE,szB] using this
 have a9:qO zs 8 8=V6:=by rw[←av];simp[yi,szE,szB,atB,zF]
 try rw[a9]
 obtain⟨V7,aC⟩:=Ex (yi true false zs 7);have cp:0≤V7∧V7<4294967296:=by have:=qY (big:=true) (ext:=false) hz hl (f:=7) (by omega) (by omega);rw[aC]at this;simpa [szE,szB] using this
 have bu:qO zs 12 4=V7:=by rw[←aC];simp[yi,szE,szB,atB,zF]
 try rw[bu]
 obtain⟨V,aB⟩:=Ex (yi true false zs 8);have cv:0≤V∧V<256:=by have:=qY (big:=true) (ext:=false) hz hl (f:=8) (by omega) (by omega);rw[aB]at this;simpa [szE,szB] using this
 have bk:qp zs 16=V:=by rw[←aB];simp[yi,szE,szB,atB,zF]
 try rw[bk]
 obtain⟨Z,ay⟩:=Ex (yi true false zs 9);have cl:0≤Z∧Z<256:=by have:=qY (big:=true) (ext:=false) hz hl (f:=9) (by omega) (by omega);rw[ay]at this;simpa [szE,szB] using this
 have aN:qp zs 17=Z:=by rw[←ay];simp[yi,szE,szB,atB,zF]
 rw[aN]at bJ;try rw[aN]
 have hs: ∀w:World,Calls Tryz.prog 167 #[.int .i64 1] w fun e w'=>e= .returned (.int .i64 64)∧w'=w:=YB true
 obtain⟨G,ak⟩:=Ex w.heap.size;have aF:b<G:=by rw[←ak];exact h1
 have bl: ∀W,Below G w W→Holds8 W (.slice (some ⟨b,off,none⟩) 64 o) zs:=fun W hW=>⟨some ⟨b,off,none⟩,o,by rw[hl],.inr ⟨b,off,rfl,Nat.lt_of_lt_of_le h1 hW.size,fun i hi=>(hW.cell (p:=⟨b,off+i,none⟩) aF).trans (HC.out i hi)⟩⟩
 have bn:=hid bl;clear bl;have az:Below G w (w.alloc (.cells Kb 171)):=by rw[←ak];exact Br.alloc Nl _
 have aR:=Wn w (.cells Kb 171);rw[ak]at aR;have bv:(w.alloc (.cells Kb 171)).heap.size=G+1:=by simp[ak]
 go_enter Tryz.func152,Tryz.ntmps152
 go_wp2_with fail
 refine(qcK true _ _ _ _).mono ?_;rintro e w1 ⟨⟨x,rfl,hx⟩,hw⟩;rw[hw];clear hw;obtain rfl:x=0:=hx.2 rfl;clear hx;generalize w.alloc (.cells Kb 171)=w2 at*;have HR:=hid aR;clear aR;go_wp2_with fail
 go_loopw [9] (fun i wr=> ∃k:Nat,i= .int .i64 k∧18≤k∧k≤32∧w2=wr) (fun i _=>32 - (intOf i).toNat)
 case atStart=>exact⟨18,rfl,by omega,by omega,rfl⟩
 case round=>
  obtain⟨k,rfl,ag,bw,rfl⟩:=hrel;by_cases an:k<32
  ·have hc:=(az.cell (p:=⟨b,off+k,none⟩) aF).trans (HC.out k (by omega));rw[bD k ag an]at hc;have k3:(k:Int)<64:=by omega
   have k4:0≤(k:Int):=by omega
   go_wp2
   exact⟨⟨k+1,rfl,by omega,by omega,by trivial⟩,by simp[intOf];omega⟩
  ·obtain rfl:k=32:=by omega
   go_wp2_with fail
   have aE:(w2.alloc (.cells #[.int .u64 0] 44)).ownsRow (G+1) 44 1 (.slice (some ⟨G+1,0,none⟩) 1 1) 1 (JA true false zs 1):=by have:=World.ownsRow_lit (base:=G+1) (e:=44) (size:=1) w2 #[.int .u64 0] 1 (by omega) (by decide) rfl;rwa[bv]at this
   have aK:Below (G+1) w2 (w2.alloc (.cells #[.int .u64 0] 44)):=Br.alloc (by omega) _;go_loopw [10,11] (fun v f wr=> ∃(k:Nat),f= .int .i64 k∧1≤k∧k≤10∧wr.ownsRow (G+1) 44 1 v k (JA true false zs k)∧Below (G+1) w2 wr) (fun _ i _=>10 - (intOf i).toNat)
   case atStart=>exact⟨1,rfl,by omega,by omega,aE,aK⟩
   case round=>
    clear aE aK;obtain⟨f,rfl,ag,bw,ad,hb⟩:=hrel;have bY:=hb.size;by_cases an:f≤9
    ·have bj:=yd true false f ag an;have bg:yi true false zs f=qO zs (atB true f) (szE true false f):=if_neg (by omega);have e1:=hid (show JA true false zs (f+1)=JA true false zs f++[.int .u64 (qO zs (atB true f) (szE true false f))] by rw[JA,bg]);have k5:(f:Int)≤9:=by omega
     have aU:=hid (jU true f ⟨ag,an⟩);obtain⟨al,ah⟩:=Ex (atB true f);obtain⟨bt,aq⟩:=Ex (szB true f);obtain⟨af,ai⟩:=Ex (szE true false f);have bi:=hid ai;have bs:=hid aq;rw[ah,ai]at e1;rw[ah,aq]at aU;rw[ah,ai]at bj;clear bg ah aq ai;obtain⟨j1,j2,j3,j4⟩:=bj;have j5:al+af≤zs.length:=by omega
     clear j4;have bp:Below G w wr:=az.trans (hb.mono (by omega));by_cases aL:f=6
     case pos=>
      subst aL;go_wp2_with fail
      refine(aU.out _).mono ?_;rintro r w4 ⟨rfl,hw⟩;rw[hw];clear hw;obtain rfl:af=bt:=by rw[←bi.out,←bs.out];simp[szE]
      go_wp2_with fail
      refine(ZL zs _ al af _ (bn.out _ bp) hz (by omega) (by omega) (by omega)).mono ?_;rintro r w5 ⟨rfl,hw⟩;rw[hw];clear hw;go_wp2_with (at_builtin;refine wpList_append_own _ rfl _ _ 105 rfl (G+1) 44 i0 (.int .u64 0) 1 8 Tryz.underlying105 hi br bf be rfl (by decide) _ _ _ rfl (ad.alloc _) ⟨wr.heap.size,0,none⟩ 1 1 [.int .u64 (qO zs al af)] rfl rfl (cell_one_new _ _ _) (by simp[Value.oneCell']) (by unfold maxLen;omega) (by omega) (by simp;omega) ?_;intro v' w6 ac aj _;have ae:Below (G+1) w2 w6:=(hb.alloc (by omega) _).grown aj (by simp;omega) (fun k e=>(ad.lt k e).1))
      rw[←e1.out]at ac;refine⟨⟨_,_,_,_,_,_,_,_,_,_,_,_,_,_,_,_,_,_,_,_,_,_,_,_,_,_,⟨7,rfl,by omega,by omega,ac,ae⟩,rfl⟩,?_⟩;first|(simp[intOf];done)|(simp[intOf];omega)
     case neg=>
      go_wp2_with fail
      refine(aU.out _).mono ?_;rintro r w4 ⟨rfl,hw⟩;rw[hw];clear hw;obtain rfl:af=bt:=by rw[←bi.out,←bs.out];simp[szE,aL]
      have cz: ¬((f:Int)=6):=by omega
      have cb: ¬(f=6):=aL;go_wp2_with fail
      refine(ZL zs _ al af _ (bn.out _ bp) hz (by omega) (by omega) (by omega)).mono ?_;rintro r w5 ⟨rfl,hw⟩;rw[hw];clear hw;go_wp2_with (at_builtin;refine wpList_append_own _ rfl _ _ 105 rfl (G+1) 44 i0 (.int .u64 0) 1 8 Tryz.underlying105 hi br bf be rfl (by decide) _ _ _ rfl (ad.alloc _) ⟨wr.heap.size,0,none⟩ 1 1 [.int .u64 (qO zs al af)] rfl rfl (cell_one_new _ _ _) (by simp[Value.oneCell']) (by unfold maxLen;omega) (by omega) (by simp;omega) ?_;intro v' w6 ac aj _;have ae:Below (G+1) w2 w6:=(hb.alloc (by omega) _).grown aj (by simp;omega) (fun k e=>(ad.lt k e).1))
      rw[←e1.out]at ac;refine⟨⟨_,_,_,_,_,_,_,_,_,_,_,_,_,_,_,_,_,_,_,_,_,_,_,_,_,_,⟨f+1,rfl,by omega,by omega,ac,ae⟩,rfl⟩,?_⟩;first|(simp[intOf];done)|(simp[intOf];omega)
    ·obtain rfl:f=10:=by omega
     obtain⟨g,cg,I,rfl,cA,ap,b4,ab⟩:=qjR ad;have aT:=hid ap;have aI:I[1]? =some (.int .u64 X):=by rw[ab 1 (by omega),QJ _ _ _ _ _ (by omega),aA]
     have a4:I[2]? =some (.int .u64 V2):=by rw[ab 2 (by omega),QJ _ _ _ _ _ (by omega),ar]
     have aV:I[3]? =some (.int .u64 U):=by rw[ab 3 (by omega),QJ _ _ _ _ _ (by omega),aw]
     have aW:I[4]? =some (.int .u64 S):=by rw[ab 4 (by omega),QJ _ _ _ _ _ (by omega),aD]
     have aH:I[5]? =some (.int .u64 Y):=by rw[ab 5 (by omega),QJ _ _ _ _ _ (by omega),au]
     have aY:I[6]? =some (.int .u64 V6):=by rw[ab 6 (by omega),QJ _ _ _ _ _ (by omega),av]
     have a3:I[7]? =some (.int .u64 V7):=by rw[ab 7 (by omega),QJ _ _ _ _ _ (by omega),aC]
     have aM:I[8]? =some (.int .u64 V):=by rw[ab 8 (by omega),QJ _ _ _ _ _ (by omega),aB]
     have aJ:I[9]? =some (.int .u64 Z):=by rw[ab 9 (by omega),QJ _ _ _ _ _ (by omega),ay]
     have aa:g<wr.heap.size:=(Ai ap).1;have c7:=(qd ap 7).trans a3;have f7:=frozen_of_row wr g 7 _ _ ap;have ba:Below G w wr:=az.trans (hb.mono (by omega));have ax:wr.heap[G]? =some (.cells Kb 171 (0,0)):=(hb.block G (by omega)).trans HR.out;clear ab ad HR hb an ag bw ap bv az aA aZ ar a6 aw a7 aD aX au bb av a9 aC bu aB bk ay aN;go_upto_region 21 with(fail)
     have J:=heap_setCell_same wr g 7 _ _ (.int .u64 0) aT.out;have bH:=hid ((qd J 1).trans (show(I.setIfInBounds 7 (.int .u64 0))[1]? =some (.int .u64 (X)) by rw[Array.getElem?_setIfInBounds];simpa using aI));have b5:=hid ((qd J 2).trans (show(I.setIfInBounds 7 (.int .u64 0))[2]? =some (.int .u64 (V2)) by rw[Array.getElem?_setIfInBounds];simpa using a4));have bW:=hid ((qd J 3).trans (show(I.setIfInBounds 7 (.int .u64 0))[3]? =some (.int .u64 (U)) by rw[Array.getElem?_setIfInBounds];simpa using aV));have bG:=hid ((qd J 4).trans (show(I.setIfInBounds 7 (.int .u64 0))[4]? =some (.int .u64 (S)) by rw[Array.getElem?_setIfInBounds];simpa using aW));have b3:=hid ((qd J 5).trans (show(I.setIfInBounds 7 (.int .u64 0))[5]? =some (.int .u64 (Y)) by rw[Array.getElem?_setIfInBounds];simpa using aH));have bK:=hid ((qd J 6).trans (show(I.setIfInBounds 7 (.int .u64 0))[6]? =some (.int .u64 (V6)) by rw[Array.getElem?_setIfInBounds];simpa using aY));have bQ:=hid ((qd J 7).trans (show(I.setIfInBounds 7 (.int .u64 0))[7]? =some (.int .u64 (0)) by rw[Array.getElem?_setIfInBounds];simp;omega));have bR:=hid ((qd J 8).trans (show(I.setIfInBounds 7 (.int .u64 0))[8]? =some (.int .u64 (V)) by rw[Array.getElem?_setIfInBounds];simpa using aM));have bZ:=hid ((qd J 9).trans (show(I.setIfInBounds 7 (.int .u64 0))[9]? =some (.int .u64 (Z)) by rw[Array.getElem?_setIfInBounds];simpa using aJ));have bV:Below G w (wr.setCell ⟨g,7,none⟩ (.int .u64 0)):=ba.setCell (by show G≤g;omega) _;have bd:(wr.setCell ⟨g,7,none⟩ (.int .u64 0)).heap[G]? =some (.cells Kb 171 (0,0)):=(heap_setCell_other wr _ _ _ (by show G≠g;omega)).trans ax;have aS:(wr.setCell ⟨g,7,none⟩ (.int .u64 0)).heap.size=wr.heap.size:=by simp[World.setCell]
     rw[←aS]at aa bY;clear ba aT J aS c7 f7 ax;generalize wr.setCell ⟨g,7,none⟩ (.int .u64 0)=W8 at*;have ax:=bd;clear bd;clear aI a4 aV aW aH aY a3 aM aJ b4;go_wp2_with fail
     refine(hs _).mono ?_;rintro r w9 ⟨rfl,hw⟩;rw[hw];clear hw;go_upto_region 22 with(fail)
     refine qI (n:=49) (w0:=W8) (B:=W8.heap.size) [.v 72 (.slice (some ⟨g,0,none⟩) 10 cg),.z 73 g 1,.v 74 (.int .u64 X),.v 75 (.int .i64 X),.v 76 (.slice (some ⟨g,0,none⟩) 10 cg),.z 77 g 2,.v 78 (.int .u64 V2),.v 79 (.int .i64 V2),.v 80 (.slice (some ⟨g,0,none⟩) 10 cg),.z 81 g 3,.v 82 (.int .u64 U),.v 83 (.int .i64 U),.v 84 (.slice (some ⟨g,0,none⟩) 10 cg),.z 85 g 4,.v 86 (.int .u64 S),.v 87 (.int .i64 S),.v 88 (.slice (some ⟨g,0,none⟩) 10 cg),.z 89 g 5,.v 90 (.int .u64 Y),.v 91 (.int .u32 Y),.v 92 (.slice (some ⟨g,0,none⟩) 10 cg),.z 93 g 6,.v 94 (.int .u64 V6),.v 95 (.slice (some ⟨g,0,none⟩) 10 cg),.z 96 g 7,.v 97 (.int .u64 0),.v 98 (.int .u32 0),.v 99 (.slice (some ⟨g,0,none⟩) 10 cg),.z 100 g 8,.v 101 (.int .u64 V),.v 102 (.int .i64 V),.v 103 (.slice (some ⟨g,0,none⟩) 10 cg),.z 104 g 9,.v 105 (.int .u64 Z),.v 106 (.int .i64 Z),.v 107 (.slice (some ⟨b,off,none⟩) 64 o),.v 108 (.int .i64 16),.v 109 (.int .i64 32),.v 110 (.int .i64 16),.v 111 (.int .i64 48),.v 112 (.slice (some ⟨b,off+32,none⟩) 16 (o - 32)),.v 113 (.slice (some ⟨b,off,none⟩) 64 o),.v 114 (.int .i64 16),.v 115 (.int .i64 48),.v 116 (.int .i64 16),.v 117 (.int .i64 64),.v 118 (.slice (some ⟨b,off+48,none⟩) 16 (o - 48)),.v 119 (.agg #[.int .i64 X,.int .i64 V2,.int .i64 U,.int .i64 S,.int .u32 Y,.int .u64 V6,.int .u32 0,.int .i64 V,.int .i64 Z,.slice (some ⟨b,off+32,none⟩) 16 (o - 32),.slice (some ⟨b,off+48,none⟩) 16 (o - 48)]),.p 15 (fun u W=> ∃p,u= .pointer (some ⟨p,0,none⟩)∧W8.heap.size≤p∧W.heap[p]? =some (.cells Kb 171 (0,0)))] (by exact⟨(fun _ _ _ h hb=>by obtain⟨p,e,h3,h4⟩:=h;exact⟨p,e,h3,qf h4 hb⟩),trivial⟩) Br.drew Nl ?_ ?_
     ·repeat' (with_reducible first|exact qB|refine qw ?_ ?_)
      all_goals try
       intro A x W O hW ao q D K hK;have bT:=O.2 10 (by decide);conv at bT=>rhs;whnf
       have a1:=O.2 1 (by decide);conv at a1=>rhs;whnf
       have bM:=O.2 14 (by decide);conv at bM=>rhs;whnf
       simp only[Q7,yk]at D;clear q O;first
       | go_simp
         exact hK _ _ BR rfl
       | have y0:=(hW.cell (p:=⟨g,1,none⟩) aa).trans bH.out
         have y1:g<W.heap.size:=by omega
         have y2:IntKind.i64.wrap X=X:=by rw[IntKind.wrap_i64];omega
         have y3:=(hW.cell (p:=⟨g,2,none⟩) aa).trans b5.out;have y4:IntKind.i64.wrap V2=V2:=by rw[IntKind.wrap_i64];omega
         have y5:=(hW.cell (p:=⟨g,3,none⟩) aa).trans bW.out;have y6:IntKind.i64.wrap U=U:=by rw[IntKind.wrap_i64];omega
         have y7:=(hW.cell (p:=⟨g,4,none⟩) aa).trans bG.out;have y8:IntKind.i64.wrap S=S:=by rw[IntKind.wrap_i64];omega
         have y9:=(hW.cell (p:=⟨g,5,none⟩) aa).trans b3.out;have cw:IntKind.u32.wrap Y=Y:=u32_wrap_id _ (by omega) (by omega);have cc:=(hW.cell (p:=⟨g,6,none⟩) aa).trans bK.out;have cy:=(hW.cell (p:=⟨g,7,none⟩) aa).trans bQ.out;have ce:=(hW.cell (p:=⟨g,8,none⟩) aa).trans bR.out;have cq:IntKind.i64.wrap V=V:=by rw[IntKind.wrap_i64];omega
         have cr:=(hW.cell (p:=⟨g,9,none⟩) aa).trans bZ.out;have ci:IntKind.i64.wrap Z=Z:=by rw[IntKind.wrap_i64];omega
         have cm: ¬o=32:=by omega
         have cd: ¬o=48:=by omega
         have cn:64≤(o:Int):=by omega
         have co:48≤(o:Int):=by omega
         go_simp
         exact hK _ _ BR rfl
      ·intro A x W O hW ao q _ K hK;have b7:=gv O q 3 75;have bN:=gv O q 7 79;have bP:=gv O q 11 83;have bO:=gv O q 15 87;have b6:=gv O q 19 91;have bL:=gv O q 22 94;have bF:=gv O q 26 98;have bE:=gv O q 30 102;have bz:=gv O q 34 106;have bC:=gv O q 40 112;have bA:=gv O q 46 118;clear q O;refine z8 171 _ rfl #[.int .i64 X,.int .i64 V2,.int .i64 U,.int .i64 S,.int .u32 Y,.int .u64 V6,.int .u32 0,.int .i64 V,.int .i64 Z,.slice (some ⟨b,off+32,none⟩) 16 (o - 32),.slice (some ⟨b,off+48,none⟩) 16 (o - 48)] ?_ (hK _ _ Br rfl);simp only[List.map_toArray,List.map_cons,List.map_nil,Act.eval,b7,bN,bP,bO,b6,bL,bF,bE,bz,bC,bA];kernel_rfl
      ·intro A x W O hW ao q _ K hK;clear q O;go_simp
       exact hK _ _ (Br.alloc Nl _) ⟨W.heap.size,rfl,ao,Wn W _⟩
     intro x W hW ao bx;obtain⟨bq, -⟩:=bx;change (fun u W=> ∃p,u= .pointer (some ⟨p,0,none⟩)∧W8.heap.size≤p∧W.heap[p]? =some (.cells Kb 171 (0,0))) (x 15) W at bq
     obtain⟨p,ep,bX,aP⟩:=bq;refine qr ?_;simp only[QP,Act.put,Ls,ep];refine wpList_store_row rfl 171 _ _ rfl p #[.int .i64 X,.int .i64 V2,.int .i64 U,.int .i64 S,.int .u32 Y,.int .u64 V6,.int .u32 0,.int .i64 V,.int .i64 Z,.slice (some ⟨b,off+32,none⟩) 16 (o - 32),.slice (some ⟨b,off+48,none⟩) 16 (o - 48)] rfl rfl 171 _ aP (by kernel_rfl) rfl (by simp[Value.oneCell']) ?_;refine qv ?_;have am:Below W8.heap.size W8 (W.setRow p #[.int .i64 X,.int .i64 V2,.int .i64 U,.int .i64 S,.int .u32 Y,.int .u64 V6,.int .u32 0,.int .i64 V,.int .i64 Z,.slice (some ⟨b,off+32,none⟩) 16 (o - 32),.slice (some ⟨b,off+48,none⟩) 16 (o - 48)]):=below_setRow hW bX _;have bh:=setRow_heap W p _ #[.int .i64 X,.int .i64 V2,.int .i64 U,.int .i64 S,.int .u32 Y,.int .u64 V6,.int .u32 0,.int .i64 V,.int .i64 Z,.slice (some ⟨b,off+32,none⟩) 16 (o - 32),.slice (some ⟨b,off+48,none⟩) 16 (o - 48)] _ _ aP;generalize W.setRow p #[.int .i64 X,.int .i64 V2,.int .i64 U,.int .i64 S,.int .u32 Y,.int .u64 V6,.int .u32 0,.int .i64 V,.int .i64 Z,.slice (some ⟨b,off+32,none⟩) 16 (o - 32),.slice (some ⟨b,off+48,none⟩) 16 (o - 48)]=W3 at am bh⊢;clear ep aP hW ao x W;have cj:=am.size;have ae:Below G w W3:=bV.trans (am.mono (by omega));have b8:W3.heap[G]? =some (.cells Kb 171 (0,0)):=(am.block G (by omega)).trans ax;have aO:Qx W3 b off zs:=⟨Nat.lt_of_lt_of_le h1 ae.size,fun i hi=>(ae.cell (p:=⟨b,off+i,none⟩) aF).trans (HC.out i hi)⟩;have aQ:=JN true X V2 U S Y V6 V Z ((zs.drop 32).take 16) ((zs.drop 48).take 16) b (off+32) (o - 32) b (off+48) (o - 48) W3 (zw aO (by omega)) (zw aO (by omega)) (by rw[QB (by omega)];omega) (by rw[QB (by omega)];omega) (by rw[QB (by omega)];decide) (by rw[QB (by omega)];decide) ⟨by simp only[mB,cond];omega,by simp only[mB,cond];omega,by omega,by omega,⟨by omega,fun h=>by cases h⟩,by omega,by simp only[mB,cond];omega⟩;rw[QB (by omega),QB (by omega)]at aQ;have bo:=hid aQ;clear aQ aO am;go_wp2_with (refine L171 p rfl bh ?_)
     refine bo.out.mono ?_;rintro r w7 ⟨⟨sa,pe,rfl,os,op⟩,bm⟩;clear bo;have bc:=qf b8 bm;have bU:Below G w w7:=ae.trans (bm.mono (by omega));obtain⟨a5,n5,k5,rfl⟩:=qs os;obtain⟨a8,n8,k8,rfl⟩:=qs op;unfold parV;go_wp2_with ((with_reducible show wpList _ _ _ (Oper.mk _ (Op.store 171 _ _) _ _ _ _::_) _ _);refine wpList_store_row rfl 171 _ _ rfl G #[.int .i64 X,.int .i64 V2,.int .i64 U,.int .i64 S,.int .u32 Y,.int .u64 V6,.int .u32 0,.int .i64 V,.int .i64 Z,.slice a5 n5 k5,.slice a8 n8 k8] rfl rfl 171 _ bc (by kernel_rfl) rfl (by simp[Value.oneCell']) ?_)
     have aG: ∀{v:Value} {n:Nat} {xs:List Value},w7.ownsRow W3.heap.size 5 1 v n xs→(w7.setRow G #[.int .i64 X,.int .i64 V2,.int .i64 U,.int .i64 S,.int .u32 Y,.int .u64 V6,.int .u32 0,.int .i64 V,.int .i64 Z,.slice a5 n5 k5,.slice a8 n8 k8]).ownsRow w.heap.size 5 1 v n xs:=fun h=>ownsRow_le (qi h (fun g g1 _=>setRow_other _ _ _ _ (by omega))) (by omega)
     exact Bp (qH rfl _ _ G _ _ _ _ rfl (setRow_heap _ G _ _ _ _ bc) Tryz.underlying171 rfl (by kernel_rfl)) rfl ⟨⟨_,_,rfl,aG os,aG op⟩,by rw[ak];exact below_setRow bU Nl _⟩
theorem Z2 (zs:List Int)(b off o:Nat)(w:World)(hB:Qx w b off zs)(hz: ∀z∈zs,0≤z∧z≤255)(b9:32≤o)(b8:(o:Int)≤9223372036854775807)(hl:zs.length=32)(bQ:1≤qp zs 0∧qp zs 0≤32)(an:qp zs 1≤32)(bG:1≤qp zs 3)(bH:qp zs 15≤32):
  Calls Tryz.prog 152 #[.int .i64 2,.slice (some ⟨b,off,none⟩) 32 o,.bool false] w fun e w'=>(∃sa pe,e= .returned (.tuple #[parV (qp zs 0) (qp zs 1) (qp zs 2) (qp zs 3) (qO zs 4 4) (qO zs 8 6) 0 (qp zs 14) (qp zs 15) sa pe,.int .i64 0])∧w'.ownsRow w.heap.size 5 1 sa (Qp ((zs.drop 16).take 8) 8) ((((zs.drop 16).take 8).take (Qp ((zs.drop 16).take 8) 8)).map qo)∧w'.ownsRow w.heap.size 5 1 pe (Qp ((zs.drop 24).take 8) 8) ((((zs.drop 24).take 8).take (Qp ((zs.drop 24).take 8) 8)).map qo))∧Below w.heap.size w w':=by
 obtain⟨h1,h2⟩:=id hB;have HC:=hid h2;have HB:=hid hB;clear h2 hB;obtain⟨i0,hi,br,bf,be⟩:=info_parts qbZ;obtain⟨X,ay⟩:=Ex (yi false false zs 1);have cf:0≤X∧X<256:=by have:=qY (big:=false) (ext:=false) hz hl (f:=1) (by omega) (by omega);rw[ay]at this;simpa [szE,szB] using this
 have aY:qp zs 0=X:=by rw[←ay];simp[yi,szE,szB,atB,zF]
 rw[aY]at bQ;try rw[aY]
 obtain⟨V2,aq⟩:=Ex (yi false false zs 2);have cj:0≤V2∧V2<256:=by have:=qY (big:=false) (ext:=false) hz hl (f:=2) (by omega) (by omega);rw[aq]at this;simpa [szE,szB] using this
 have a4:qp zs 1=V2:=by rw[←aq];simp[yi,szE,szB,atB,zF]
 rw[a4]at an;try rw[a4]
 obtain⟨U,av⟩:=Ex (yi false false zs 3);have ct:0≤U∧U<256:=by have:=qY (big:=false) (ext:=false) hz hl (f:=3) (by omega) (by omega);rw[av]at this;simpa [szE,szB] using this
 have a7:qp zs 2=U:=by rw[←av];simp[yi,szE,szB,atB,zF]
 try rw[a7]
 obtain⟨S,aB⟩:=Ex (yi false false zs 4);have cw:0≤S∧S<256:=by have:=qY (big:=false) (ext:=false) hz hl (f:=4) (by omega) (by omega);rw[aB]at this;simpa [szE,szB] using this
 have aW:qp zs 3=S:=by rw[←aB];simp[yi,szE,szB,atB,zF]
 rw[aW]at bG;try rw[aW]
 obtain⟨Y,ar⟩:=Ex (yi false false zs 5);have cr:0≤Y∧Y<4294967296:=by have:=qY (big:=false) (ext:=false) hz hl (f:=5) (by omega) (by omega);rw[ar]at this;simpa [szE,szB] using this
 have bb:qO zs 4 4=Y:=by rw[←ar];simp[yi,szE,szB,atB,zF]
 try rw[bb]
 obtain⟨V6,au⟩:=Ex (yi false false zs 6);have ce:0≤V6∧V6<281474976710656:=by have:=qY (big:=false) (ext:=false) hz hl (f:=6) (by omega) (by omega);rw[au]at this;simpa [szE,szB] using this
 have a9:qO zs 8 6=V6:=by rw[←au];simp[yi,szE,szB,atB,zF]
 try rw[a9]
 obtain⟨V7,aA⟩:=Ex (yi false false zs 7);have co:0≤V7∧V7<65536:=by have:=qY (big:=false) (ext:=false) hz hl (f:=7) (by omega) (by omega);rw[aA]at this;simpa [szE,szB] using this
 have bu:qO zs 12 2=V7:=by rw[←aA];simp[yi,szE,szB,atB,zF]
 try rw[bu]
 obtain⟨V,az⟩:=Ex (yi false false zs 8);have cu:0≤V∧V<256:=by have:=qY (big:=false) (ext:=false) hz hl (f:=8) (by omega) (by omega);rw[az]at this;simpa [szE,szB] using this
 have bk:qp zs 14=V:=by rw[←az];simp[yi,szE,szB,atB,zF]
 try rw[bk]
 obtain⟨Z,ax⟩:=Ex (yi false false zs 9);have ck:0≤Z∧Z<256:=by have:=qY (big:=false) (ext:=false) hz hl (f:=9) (by omega) (by omega);rw[ax]at this;simpa [szE,szB] using this
 have aL:qp zs 15=Z:=by rw[←ax];simp[yi,szE,szB,atB,zF]
 rw[aL]at bH;try rw[aL]
 have hs: ∀w:World,Calls Tryz.prog 167 #[.int .i64 2] w fun e w'=>e= .returned (.int .i64 32)∧w'=w:=YB false
 obtain⟨G,aj⟩:=Ex w.heap.size;have a6:b<G:=by rw[←aj];exact h1
 have bl: ∀W,Below G w W→Holds8 W (.slice (some ⟨b,off,none⟩) 32 o) zs:=fun W hW=>⟨some ⟨b,off,none⟩,o,by rw[hl],.inr ⟨b,off,rfl,Nat.lt_of_lt_of_le h1 hW.size,fun i hi=>(hW.cell (p:=⟨b,off+i,none⟩) a6).trans (HC.out i hi)⟩⟩
 have bn:=hid bl;clear bl;have aN:Below G w (w.alloc (.cells Kb 171)):=by rw[←aj];exact Br.alloc Nl _
 have aQ:=Wn w (.cells Kb 171);rw[aj]at aQ;have bv:(w.alloc (.cells Kb 171)).heap.size=G+1:=by simp[aj]
 go_enter Tryz.func152,Tryz.ntmps152
 go_wp2_with fail
 refine(qcK false _ _ _ _).mono ?_;rintro e w1 ⟨⟨x,rfl,hx⟩,hw⟩;rw[hw];clear hw;obtain rfl:x=0:=hx.2 rfl;clear hx;generalize w.alloc (.cells Kb 171)=w2 at*;have HR:=hid aQ;clear aQ;go_wp2_with fail
 go_loopw [9] (fun i wr=>i= .int .i64 18∧w2=wr) (fun _ _=>0)
 case atStart=>exact⟨rfl,rfl⟩
 case round=>
  obtain⟨rfl,rfl⟩:=hrel
  ·skip
   go_wp2_with fail
   have aC:(w2.alloc (.cells #[.int .u64 0] 44)).ownsRow (G+1) 44 1 (.slice (some ⟨G+1,0,none⟩) 1 1) 1 (JA false false zs 1):=by have:=World.ownsRow_lit (base:=G+1) (e:=44) (size:=1) w2 #[.int .u64 0] 1 (by omega) (by decide) rfl;rwa[bv]at this
   have aH:Below (G+1) w2 (w2.alloc (.cells #[.int .u64 0] 44)):=Br.alloc (by omega) _;go_loopw [10,11] (fun v f wr=> ∃(k:Nat),f= .int .i64 k∧1≤k∧k≤10∧wr.ownsRow (G+1) 44 1 v k (JA false false zs k)∧Below (G+1) w2 wr) (fun _ i _=>10 - (intOf i).toNat)
   case atStart=>exact⟨1,rfl,by omega,by omega,aC,aH⟩
   case round=>
    clear aC aH;obtain⟨f,rfl,an,b7,ad,hb⟩:=hrel;have bW:=hb.size;by_cases aK:f≤9
    ·have bj:=yd false false f an aK;have bg:yi false false zs f=qO zs (atB false f) (szE false false f):=if_neg (by omega);have e1:=hid (show JA false false zs (f+1)=JA false false zs f++[.int .u64 (qO zs (atB false f) (szE false false f))] by rw[JA,bg]);have k5:(f:Int)≤9:=by omega
     have aT:=hid (jU false f ⟨an,aK⟩);obtain⟨ak,ag⟩:=Ex (atB false f);obtain⟨bt,ap⟩:=Ex (szB false f);obtain⟨af,ah⟩:=Ex (szE false false f);have bi:=hid ah;have bs:=hid ap;rw[ag,ah]at e1;rw[ag,ap]at aT;rw[ag,ah]at bj;clear bg ag ap ah;obtain⟨j1,j2,j3,j4⟩:=bj;have j5:ak+af≤zs.length:=by omega
     clear j4;have bp:Below G w wr:=aN.trans (hb.mono (by omega));by_cases aI:f=6
     case pos=>
      subst aI;go_wp2_with fail
      refine(aT.out _).mono ?_;rintro r w4 ⟨rfl,hw⟩;rw[hw];clear hw;obtain rfl:af=bt:=by rw[←bi.out,←bs.out];simp[szE]
      go_wp2_with fail
      refine(ZL zs _ ak af _ (bn.out _ bp) hz (by omega) (by omega) (by omega)).mono ?_;rintro r w5 ⟨rfl,hw⟩;rw[hw];clear hw;go_wp2_with (at_builtin;refine wpList_append_own _ rfl _ _ 105 rfl (G+1) 44 i0 (.int .u64 0) 1 8 Tryz.underlying105 hi br bf be rfl (by decide) _ _ _ rfl (ad.alloc _) ⟨wr.heap.size,0,none⟩ 1 1 [.int .u64 (qO zs ak af)] rfl rfl (cell_one_new _ _ _) (by simp[Value.oneCell']) (by unfold maxLen;omega) (by omega) (by simp;omega) ?_;intro v' w6 ac ai _;have ae:Below (G+1) w2 w6:=(hb.alloc (by omega) _).grown ai (by simp;omega) (fun k e=>(ad.lt k e).1))
      rw[←e1.out]at ac;refine⟨⟨7,rfl,by omega,by omega,ac,ae⟩,?_⟩;first|(simp[intOf];done)|(simp[intOf];omega)
     case neg=>
      go_wp2_with fail
      refine(aT.out _).mono ?_;rintro r w4 ⟨rfl,hw⟩;rw[hw];clear hw;obtain rfl:af=bt:=by rw[←bi.out,←bs.out];simp[szE,aI]
      have cy: ¬((f:Int)=6):=by omega
      have ca: ¬(f=6):=aI;go_wp2_with fail
      refine(ZL zs _ ak af _ (bn.out _ bp) hz (by omega) (by omega) (by omega)).mono ?_;rintro r w5 ⟨rfl,hw⟩;rw[hw];clear hw;go_wp2_with (at_builtin;refine wpList_append_own _ rfl _ _ 105 rfl (G+1) 44 i0 (.int .u64 0) 1 8 Tryz.underlying105 hi br bf be rfl (by decide) _ _ _ rfl (ad.alloc _) ⟨wr.heap.size,0,none⟩ 1 1 [.int .u64 (qO zs ak af)] rfl rfl (cell_one_new _ _ _) (by simp[Value.oneCell']) (by unfold maxLen;omega) (by omega) (by simp;omega) ?_;intro v' w6 ac ai _;have ae:Below (G+1) w2 w6:=(hb.alloc (by omega) _).grown ai (by simp;omega) (fun k e=>(ad.lt k e).1))
      rw[←e1.out]at ac;refine⟨⟨f+1,rfl,by omega,by omega,ac,ae⟩,?_⟩;first|(simp[intOf];done)|(simp[intOf];omega)
    ·obtain rfl:f=10:=by omega
     obtain⟨g,cg,I,rfl,cz,ao,bZ,ab⟩:=qjR ad;have aS:=hid ao;have aF:I[1]? =some (.int .u64 X):=by rw[ab 1 (by omega),QJ _ _ _ _ _ (by omega),ay]
     have a3:I[2]? =some (.int .u64 V2):=by rw[ab 2 (by omega),QJ _ _ _ _ _ (by omega),aq]
     have aU:I[3]? =some (.int .u64 U):=by rw[ab 3 (by omega),QJ _ _ _ _ _ (by omega),av]
     have aV:I[4]? =some (.int .u64 S):=by rw[ab 4 (by omega),QJ _ _ _ _ _ (by omega),aB]
     have aE:I[5]? =some (.int .u64 Y):=by rw[ab 5 (by omega),QJ _ _ _ _ _ (by omega),ar]
     have aX:I[6]? =some (.int .u64 V6):=by rw[ab 6 (by omega),QJ _ _ _ _ _ (by omega),au]
     have aZ:I[7]? =some (.int .u64 V7):=by rw[ab 7 (by omega),QJ _ _ _ _ _ (by omega),aA]
     have aJ:I[8]? =some (.int .u64 V):=by rw[ab 8 (by omega),QJ _ _ _ _ _ (by omega),az]
     have aG:I[9]? =some (.int .u64 Z):=by rw[ab 9 (by omega),QJ _ _ _ _ _ (by omega),ax]
     have aa:g<wr.heap.size:=(Ai ao).1;have c7:=(qd ao 7).trans aZ;have f7:=frozen_of_row wr g 7 _ _ ao;have ba:Below G w wr:=aN.trans (hb.mono (by omega));have aw:wr.heap[G]? =some (.cells Kb 171 (0,0)):=(hb.block G (by omega)).trans HR.out;clear ab ad HR hb aK an b7 ao bv aN ay aY aq a4 av a7 aB aW ar bb au a9 aA bu az bk ax aL;go_upto_region 21 with(fail)
     have J:=heap_setCell_same wr g 7 _ _ (.int .u64 0) aS.out;have bF:=hid ((qd J 1).trans (show(I.setIfInBounds 7 (.int .u64 0))[1]? =some (.int .u64 (X)) by rw[Array.getElem?_setIfInBounds];simpa using aF));have b3:=hid ((qd J 2).trans (show(I.setIfInBounds 7 (.int .u64 0))[2]? =some (.int .u64 (V2)) by rw[Array.getElem?_setIfInBounds];simpa using a3));have bU:=hid ((qd J 3).trans (show(I.setIfInBounds 7 (.int .u64 0))[3]? =some (.int .u64 (U)) by rw[Array.getElem?_setIfInBounds];simpa using aU));have bE:=hid ((qd J 4).trans (show(I.setIfInBounds 7 (.int .u64 0))[4]? =some (.int .u64 (S)) by rw[Array.getElem?_setIfInBounds];simpa using aV));have bY:=hid ((qd J 5).trans (show(I.setIfInBounds 7 (.int .u64 0))[5]? =some (.int .u64 (Y)) by rw[Array.getElem?_setIfInBounds];simpa using aE));have bI:=hid ((qd J 6).trans (show(I.setIfInBounds 7 (.int .u64 0))[6]? =some (.int .u64 (V6)) by rw[Array.getElem?_setIfInBounds];simpa using aX));have bO:=hid ((qd J 7).trans (show(I.setIfInBounds 7 (.int .u64 0))[7]? =some (.int .u64 (0)) by rw[Array.getElem?_setIfInBounds];simp;omega));have bP:=hid ((qd J 8).trans (show(I.setIfInBounds 7 (.int .u64 0))[8]? =some (.int .u64 (V)) by rw[Array.getElem?_setIfInBounds];simpa using aJ));have bX:=hid ((qd J 9).trans (show(I.setIfInBounds 7 (.int .u64 0))[9]? =some (.int .u64 (Z)) by rw[Array.getElem?_setIfInBounds];simpa using aG));have bT:Below G w (wr.setCell ⟨g,7,none⟩ (.int .u64 0)):=ba.setCell (by show G≤g;omega) _;have bd:(wr.setCell ⟨g,7,none⟩ (.int .u64 0)).heap[G]? =some (.cells Kb 171 (0,0)):=(heap_setCell_other wr _ _ _ (by show G≠g;omega)).trans aw;have aR:(wr.setCell ⟨g,7,none⟩ (.int .u64 0)).heap.size=wr.heap.size:=by simp[World.setCell]
     rw[←aR]at aa bW;clear ba aS J aR c7 f7 aw;generalize wr.setCell ⟨g,7,none⟩ (.int .u64 0)=W8 at*;have aw:=bd;clear bd;clear aF a3 aU aV aE aX aZ aJ aG bZ;go_wp2_with fail
     refine(hs _).mono ?_;rintro r w9 ⟨rfl,hw⟩;rw[hw];clear hw;go_upto_region 22 with(fail)
     refine qI (n:=49) (w0:=W8) (B:=W8.heap.size) [.v 72 (.slice (some ⟨g,0,none⟩) 10 cg),.z 73 g 1,.v 74 (.int .u64 X),.v 75 (.int .i64 X),.v 76 (.slice (some ⟨g,0,none⟩) 10 cg),.z 77 g 2,.v 78 (.int .u64 V2),.v 79 (.int .i64 V2),.v 80 (.slice (some ⟨g,0,none⟩) 10 cg),.z 81 g 3,.v 82 (.int .u64 U),.v 83 (.int .i64 U),.v 84 (.slice (some ⟨g,0,none⟩) 10 cg),.z 85 g 4,.v 86 (.int .u64 S),.v 87 (.int .i64 S),.v 88 (.slice (some ⟨g,0,none⟩) 10 cg),.z 89 g 5,.v 90 (.int .u64 Y),.v 91 (.int .u32 Y),.v 92 (.slice (some ⟨g,0,none⟩) 10 cg),.z 93 g 6,.v 94 (.int .u64 V6),.v 95 (.slice (some ⟨g,0,none⟩) 10 cg),.z 96 g 7,.v 97 (.int .u64 0),.v 98 (.int .u32 0),.v 99 (.slice (some ⟨g,0,none⟩) 10 cg),.z 100 g 8,.v 101 (.int .u64 V),.v 102 (.int .i64 V),.v 103 (.slice (some ⟨g,0,none⟩) 10 cg),.z 104 g 9,.v 105 (.int .u64 Z),.v 106 (.int .i64 Z),.v 107 (.slice (some ⟨b,off,none⟩) 32 o),.v 108 (.int .i64 8),.v 109 (.int .i64 16),.v 110 (.int .i64 8),.v 111 (.int .i64 24),.v 112 (.slice (some ⟨b,off+16,none⟩) 8 (o - 16)),.v 113 (.slice (some ⟨b,off,none⟩) 32 o),.v 114 (.int .i64 8),.v 115 (.int .i64 24),.v 116 (.int .i64 8),.v 117 (.int .i64 32),.v 118 (.slice (some ⟨b,off+24,none⟩) 8 (o - 24)),.v 119 (.agg #[.int .i64 X,.int .i64 V2,.int .i64 U,.int .i64 S,.int .u32 Y,.int .u64 V6,.int .u32 0,.int .i64 V,.int .i64 Z,.slice (some ⟨b,off+16,none⟩) 8 (o - 16),.slice (some ⟨b,off+24,none⟩) 8 (o - 24)]),.p 15 (fun u W=> ∃p,u= .pointer (some ⟨p,0,none⟩)∧W8.heap.size≤p∧W.heap[p]? =some (.cells Kb 171 (0,0)))] (by exact⟨(fun _ _ _ h hb=>by obtain⟨p,e,h3,h4⟩:=h;exact⟨p,e,h3,qf h4 hb⟩),trivial⟩) Br.drew Nl ?_ ?_
     ·repeat' (with_reducible first|exact qB|refine qw ?_ ?_)
      all_goals try
       intro A x W O hW am q D K hK;have bR:=O.2 10 (by decide);conv at bR=>rhs;whnf
       have a1:=O.2 1 (by decide);conv at a1=>rhs;whnf
       have bK:=O.2 14 (by decide);conv at bK=>rhs;whnf
       simp only[Q7,yk]at D;clear q O;first
       | go_simp
         exact hK _ _ BR rfl
       | have y0:=(hW.cell (p:=⟨g,1,none⟩) aa).trans bF.out
         have y1:g<W.heap.size:=by omega
         have y2:IntKind.i64.wrap X=X:=by rw[IntKind.wrap_i64];omega
         have y3:=(hW.cell (p:=⟨g,2,none⟩) aa).trans b3.out;have y4:IntKind.i64.wrap V2=V2:=by rw[IntKind.wrap_i64];omega
         have y5:=(hW.cell (p:=⟨g,3,none⟩) aa).trans bU.out;have y6:IntKind.i64.wrap U=U:=by rw[IntKind.wrap_i64];omega
         have y7:=(hW.cell (p:=⟨g,4,none⟩) aa).trans bE.out;have y8:IntKind.i64.wrap S=S:=by rw[IntKind.wrap_i64];omega
         have y9:=(hW.cell (p:=⟨g,5,none⟩) aa).trans bY.out;have cv:IntKind.u32.wrap Y=Y:=u32_wrap_id _ (by omega) (by omega);have cb:=(hW.cell (p:=⟨g,6,none⟩) aa).trans bI.out;have cx:=(hW.cell (p:=⟨g,7,none⟩) aa).trans bO.out;have cd:=(hW.cell (p:=⟨g,8,none⟩) aa).trans bP.out;have cp:IntKind.i64.wrap V=V:=by rw[IntKind.wrap_i64];omega
         have cq:=(hW.cell (p:=⟨g,9,none⟩) aa).trans bX.out;have ch:IntKind.i64.wrap Z=Z:=by rw[IntKind.wrap_i64];omega
         have cl: ¬o=16:=by omega
         have cc: ¬o=24:=by omega
         have cm:32≤(o:Int):=by omega
         have cn:24≤(o:Int):=by omega
         go_simp
         exact hK _ _ BR rfl
      ·intro A x W O hW am q _ K hK;have b5:=gv O q 3 75;have bL:=gv O q 7 79;have bN:=gv O q 11 83;have bM:=gv O q 15 87;have b4:=gv O q 19 91;have bJ:=gv O q 22 94;have bD:=gv O q 26 98;have bC:=gv O q 30 102;have bx:=gv O q 34 106;have bA:=gv O q 40 112;have bz:=gv O q 46 118;clear q O;refine z8 171 _ rfl #[.int .i64 X,.int .i64 V2,.int .i64 U,.int .i64 S,.int .u32 Y,.int .u64 V6,.int .u32 0,.int .i64 V,.int .i64 Z,.slice (some ⟨b,off+16,none⟩) 8 (o - 16),.slice (some ⟨b,off+24,none⟩) 8 (o - 24)] ?_ (hK _ _ Br rfl);simp only[List.map_toArray,List.map_cons,List.map_nil,Act.eval,b5,bL,bN,bM,b4,bJ,bD,bC,bx,bA,bz];kernel_rfl
      ·intro A x W O hW am q _ K hK;clear q O;go_simp
       exact hK _ _ (Br.alloc Nl _) ⟨W.heap.size,rfl,am,Wn W _⟩
     intro x W hW am bw;obtain⟨bq, -⟩:=bw;change (fun u W=> ∃p,u= .pointer (some ⟨p,0,none⟩)∧W8.heap.size≤p∧W.heap[p]? =some (.cells Kb 171 (0,0))) (x 15) W at bq
     obtain⟨p,ep,bV,aO⟩:=bq;refine qr ?_;simp only[QP,Act.put,Ls,ep];refine wpList_store_row rfl 171 _ _ rfl p #[.int .i64 X,.int .i64 V2,.int .i64 U,.int .i64 S,.int .u32 Y,.int .u64 V6,.int .u32 0,.int .i64 V,.int .i64 Z,.slice (some ⟨b,off+16,none⟩) 8 (o - 16),.slice (some ⟨b,off+24,none⟩) 8 (o - 24)] rfl rfl 171 _ aO (by kernel_rfl) rfl (by simp[Value.oneCell']) ?_;refine qv ?_;have al:Below W8.heap.size W8 (W.setRow p #[.int .i64 X,.int .i64 V2,.int .i64 U,.int .i64 S,.int .u32 Y,.int .u64 V6,.int .u32 0,.int .i64 V,.int .i64 Z,.slice (some ⟨b,off+16,none⟩) 8 (o - 16),.slice (some ⟨b,off+24,none⟩) 8 (o - 24)]):=below_setRow hW bV _;have bh:=setRow_heap W p _ #[.int .i64 X,.int .i64 V2,.int .i64 U,.int .i64 S,.int .u32 Y,.int .u64 V6,.int .u32 0,.int .i64 V,.int .i64 Z,.slice (some ⟨b,off+16,none⟩) 8 (o - 16),.slice (some ⟨b,off+24,none⟩) 8 (o - 24)] _ _ aO;generalize W.setRow p #[.int .i64 X,.int .i64 V2,.int .i64 U,.int .i64 S,.int .u32 Y,.int .u64 V6,.int .u32 0,.int .i64 V,.int .i64 Z,.slice (some ⟨b,off+16,none⟩) 8 (o - 16),.slice (some ⟨b,off+24,none⟩) 8 (o - 24)]=W3 at al bh⊢;clear ep aO hW am x W;have ci:=al.size;have ae:Below G w W3:=bT.trans (al.mono (by omega));have b6:W3.heap[G]? =some (.cells Kb 171 (0,0)):=(al.block G (by omega)).trans aw;have aM:Qx W3 b off zs:=⟨Nat.lt_of_lt_of_le h1 ae.size,fun i hi=>(ae.cell (p:=⟨b,off+i,none⟩) a6).trans (HC.out i hi)⟩;have aP:=JN false X V2 U S Y V6 V Z ((zs.drop 16).take 8) ((zs.drop 24).take 8) b (off+16) (o - 16) b (off+24) (o - 24) W3 (zw aM (by omega)) (zw aM (by omega)) (by rw[QB (by omega)];omega) (by rw[QB (by omega)];omega) (by rw[QB (by omega)];decide) (by rw[QB (by omega)];decide) ⟨by simp only[mB,cond];omega,by simp only[mB,cond];omega,by omega,by omega,⟨by omega,fun h=>by omega⟩,by omega,by simp only[mB,cond];omega⟩;rw[QB (by omega),QB (by omega)]at aP;have bo:=hid aP;clear aP aM al;go_wp2_with (refine L171 p rfl bh ?_)
     refine bo.out.mono ?_;rintro r w7 ⟨⟨sa,pe,rfl,os,op⟩,bm⟩;clear bo;have bc:=qf b6 bm;have bS:Below G w w7:=ae.trans (bm.mono (by omega));obtain⟨a5,n5,k5,rfl⟩:=qs os;obtain⟨a8,n8,k8,rfl⟩:=qs op;unfold parV;go_wp2_with ((with_reducible show wpList _ _ _ (Oper.mk _ (Op.store 171 _ _) _ _ _ _::_) _ _);refine wpList_store_row rfl 171 _ _ rfl G #[.int .i64 X,.int .i64 V2,.int .i64 U,.int .i64 S,.int .u32 Y,.int .u64 V6,.int .u32 0,.int .i64 V,.int .i64 Z,.slice a5 n5 k5,.slice a8 n8 k8] rfl rfl 171 _ bc (by kernel_rfl) rfl (by simp[Value.oneCell']) ?_)
     have aD: ∀{v:Value} {n:Nat} {xs:List Value},w7.ownsRow W3.heap.size 5 1 v n xs→(w7.setRow G #[.int .i64 X,.int .i64 V2,.int .i64 U,.int .i64 S,.int .u32 Y,.int .u64 V6,.int .u32 0,.int .i64 V,.int .i64 Z,.slice a5 n5 k5,.slice a8 n8 k8]).ownsRow w.heap.size 5 1 v n xs:=fun h=>ownsRow_le (qi h (fun g g1 _=>setRow_other _ _ _ _ (by omega))) (by omega)
     exact Bp (qH rfl _ _ G _ _ _ _ rfl (setRow_heap _ G _ _ _ _ bc) Tryz.underlying171 rfl (by kernel_rfl)) rfl ⟨⟨_,_,rfl,aD os,aD op⟩,by rw[aj];exact below_setRow bS Nl _⟩
end Go.Proofs.YthjoojnlnlmljaaGreat
namespace Go.Proofs.YthjoojnlnlmljaaGreat
open Go.ChangeShapes Go.WideShapes Go.ChangeAt Go.RowKit Go.Joins Go.Shelf Go.Maps
open Go.Lib (hid)
attribute [local go_sem] Oper.semAt_some Y8
theorem qdA (x n:Nat)(hn:n≤8)(hx:(x:Int)≤18446744073709551615)(w:World):
  Calls Tryz.prog 192 #[.int .u64 x,.int .i64 n] w fun e w'=> ∃v,e= .returned v∧w'.ownsRow w.heap.size 5 1 v n ((qD x n).map qo)∧Below w.heap.size w w':=by
 obtain⟨X,hi,J,I,V⟩:=info_parts Ql;go_enter Tryz.func192,Tryz.ntmps192
 go_wp2_with fail
 go_loopw [0,5,6] (fun t o i wr=> ∃(k:Nat) (v:Value),t= .int .u64 (z7 x k)∧o=v∧i= .int .i64 k∧k≤n∧wr.ownsRow w.heap.size 5 1 v k ((qD x k).map qo)∧Below w.heap.size w wr) (fun _ _ i _=>n - (intOf i).toNat)
 case atStart=>exact⟨0,_,by simp[z7],rfl,rfl,by omega,Wo _ _ _ _,Below.refl _ _⟩
 case round=>
  obtain⟨k,v,rfl,rfl,rfl,hk,q,G⟩:=hrel;have U:=G.size;by_cases aa:k<n
  ·have q1:=qez x k;have q2:=qeA x k;have q4:IntKind.u64.wrap ((z7 x (k+1):Nat):Int)=((z7 x (k+1):Nat):Int):=u64_wrap_id _ (by omega) (by have:=qbm x (k+1);omega);have q3:(z7 x k:Int)≤18446744073709551615:=by have:=qbm x k;omega
   have O:(qD x (k+1)).map qo=(qD x k).map qo++[.int .u8 (byt x k)]:=by rw[zx,List.map_append];rfl
   have Y:=hid O;clear O;go_wp2_with (at_builtin;refine wpList_append_own _ rfl _ _ 24 rfl w.heap.size 5 X (.int .u8 0) 1 1 Tryz.underlying24 hi J I V rfl (by decide) _ _ _ rfl (q.alloc _) ⟨wr.heap.size,0,none⟩ 1 1 [.int .u8 (byt x k)] rfl rfl (cell_one_new _ _ _) (by simp[Value.oneCell']) (by unfold maxLen;omega) (by omega) (by simp;omega) ?_;intro v' Z r D _;have S:Below w.heap.size w Z:=(G.alloc U _).grown D (by simp;omega) (fun k e=>(q.lt k e).1))
   rw[←Y.out]at r;exact⟨⟨k+1,v',rfl,rfl,rfl,by omega,r,S⟩,by simp[intOf];omega⟩
  ·obtain rfl:k=n:=by omega
   go_wp2
   go_ret
   exact⟨_,rfl,q,G⟩
def wB (big:Bool):Nat:=cond big 8 4
theorem qbN (big:Bool)(w:World):
  Calls Tryz.prog 154 #[.int .i64 (kB big)] w fun e w'=>e= .returned (.int .i64 (mB big))∧w'=w:=by
 cases big<;>
 ·simp only[kB,mB,cond];go_enter Tryz.func154,Tryz.ntmps154
  go_wp2
  go_ret
  exact⟨rfl,rfl⟩
theorem qaV (big:Bool)(h:List Int)(hh:Words 64 16 h)(w:World):
  Calls Tryz.prog 178 #[.int .i64 (kB big),.agg (qj .u64 h)] w fun e w'=> ∃v,e= .returned v∧w'.ownsRow w.heap.size 5 1 v (wB big*8) ((qQ (wB big) h 8).map qo)∧Below w.heap.size w w':=by
 obtain⟨i0,hi,aj,ah,aq⟩:=info_parts Ql;obtain⟨G,Y⟩:=Ex w.heap.size;have al:Below G w (w.alloc (.cells (qj .u64 h) 252)):=by rw[←Y];exact Br.alloc Nl _
 have ac:wB big≤8:=by cases big<;>decide
 have aA:0<wB big:=by cases big<;>decide
 have av:(((mB big:Nat):Int).tdiv 8)=(wB big:Nat):=by cases big<;>rfl
 go_enter Tryz.func178,Tryz.ntmps178
 go_wp2_with fail
 go_loopw [5,6] (fun o i wr=> ∃(k:Nat) (v:Value),o=v∧i= .int .i64 k∧k≤8∧wr.ownsRow (G+1) 5 1 v (wB big*k) ((qQ (wB big) h k).map qo)∧Below (G+1) (w.alloc (.cells (qj .u64 h) 252)) wr) (fun _ i _=>8 - (intOf i).toNat)
 case atStart=>exact⟨0,_,rfl,rfl,by omega,Wo _ _ _ _,Below.refl _ _⟩
 case round=>
  obtain⟨k,v,rfl,rfl,hk,Z,U⟩:=hrel;have ai:G+1≤wr.heap.size:=by have:=U.size;simp at this;omega
  by_cases az:k<8
  ·have ad:wr.cell? ⟨G,k,none⟩=some (.int .u64 (wd h k)):=by
    rw[U.cell (p:=⟨G,k,none⟩) (by show G<G+1;omega),←Y,qd (Wn w _) k];exact qE hh (by omega)
   have ab:G<wr.heap.size:=by omega
   have ak:=yE hh (show k<16 by omega);obtain⟨X,hX,ag⟩: ∃X:Nat,wd h k=(X:Int)∧(wd h k).toNat=X:=⟨(wd h k).toNat,by omega,rfl⟩;rw[hX]at ad ak;have ap:(X:Int)≤18446744073709551615:=by omega
   have aw:wB big*k≤64:=by have:=Nat.mul_le_mul ac (show k≤8 by omega);omega
   have ar:IntKind.i64.wrap (((mB big:Nat):Int).tdiv 8)=(wB big:Nat):=by cases big<;>rfl
   have au:IntKind.i64.wrap ((wB big:Nat):Int)=(wB big:Nat):=by cases big<;>rfl
   have k1:(k:Int)<16:=by omega
   have k2:0≤(k:Int):=by omega
   have an:Below wr.heap.size wr wr.drew:=Br.drew;go_wp2_with fail
   rw[decide_eq_true (show(k:Int)<8 by omega)];refine qI (n:=8) (w0:=wr) (B:=wr.heap.size) [.v 11 u5,.v 12 (.int .i64 k),.z 13 G k,.v 14 (.int .u64 X),.v 15 (.int .i64 (kB big)),.v 16 (.int .i64 (mB big)),.v 17 (.int .i64 (wB big)),.p 18 (fun u W=>W.ownsRow wr.heap.size 5 1 u (wB big) ((qD X (wB big)).map qo))] (by exact⟨(fun _ _ _ h U=>qi h (fun g _ g2=>U.block g g2)),trivial⟩) an Nl ?_ ?_
   ·repeat' (with_reducible first|exact qB|refine qw ?_ ?_)
    all_goals try
     intro A x W I S J q D K V;have a5:=I.2 5 (by decide);conv at a5=>rhs;whnf
     have a6:=I.2 6 (by decide);conv at a6=>rhs;whnf
     have a3:=I.2 3 (by decide);conv at a3=>rhs;whnf
     have a0:=I.2 0 (by decide);conv at a0=>rhs;whnf
     simp only[Q7,yk]at D;clear q I;first
     | go_simp
       exact V _ _ BR rfl
     | have y0:=(S.cell (p:=⟨G,k,none⟩) ab).trans ad
       have y1:G<W.heap.size:=Nat.lt_of_lt_of_le ab J;go_simp
       exact V _ _ BR rfl
    ·intro A x W I S J q _ K V;have ax:=gv I q 4 15;clear q I;go_simp
     refine(qbN big W).mono ?_;rintro r w2 ⟨rfl,rfl⟩
     exact V _ _ BR rfl
    ·intro A x W I S J q _ K V;have aB:=gv I q 3 14;have ay:=gv I q 6 17;clear q I;go_simp
     refine(qdA X (wB big) ac ap W).mono ?_;rintro r w2 ⟨u,rfl,aa,am⟩
     exact V _ _ am (ownsRow_le aa J)
   intro x W S J af;obtain⟨ae, -⟩:=af;change (fun u W=>W.ownsRow wr.heap.size 5 1 u (wB big) ((qD X (wB big)).map qo)) (x 18) W at ae
   refine qr ?_;simp only[QP,Act.put,Ls];refine qU rfl _ _ _ (by rfl) (w.alloc (.cells (qj .u64 h) 252)) (G+1) (by simp;omega) (U.trans (S.mono ai)) 5 i0 (.int .u8 0) 1 Tryz.underlying24 hi aj ah aq rfl _ (wB big*k) ((qQ (wB big) h k).map qo) (by rfl) (qi Z (fun g _ g2=>S.block g g2)) (x 18) (wB big) ((qD X (wB big)).map qo) (by rfl) (qfC ae (by simp[qo,Value.oneCell'])) (by unfold maxLen;omega) (by omega) ?_;intro v' w' O ao;refine qr ?_;rw[←List.map_append,←ag]at O;simp only[Act.put,Ls];go_wp2_with fail
   refine qv ?_;go_wp2_with fail
   exact⟨⟨k+1,v',rfl,rfl,by omega,O,ao⟩,by simp[intOf];omega⟩
  ·obtain rfl:k=8:=by omega
   go_wp2
   go_ret
   refine⟨_,rfl,ownsRow_le Z (by omega),?_⟩;rw[Y];exact al.trans (U.mono (by omega))
def bB (big:Bool):Nat:=cond big 128 64
def nB (big:Bool):Nat:=cond big 64 32
def wK (big:Bool):IntKind:=cond big .u64 .u32
theorem YY (big:Bool):0<bB big:=by cases big<;>decide
theorem qjc (big:Bool): ∀z,(wK big).wrap z=z%2^nB big:=by
 cases big
 ·intro z;exact IntKind.wrap_u32 z
 ·intro z;exact IntKind.wrap_u64 z
def yJ (big:Bool)(h bs:List Int)(lo:Int)(last node:Bool):List Int:=
 cond big (Zl mixBig IVb 12 h (Q3 8 16 bs) lo 0 last node) (Zl mixSmall IVs 10 h (Q3 4 16 bs) (lo%4294967296) (lo/4294967296) last node)
theorem QX (big:Bool){h:List Int}(q:Words (nB big) 8 h)(r:List Int)(lo:Int)(o node:Bool):Words (nB big) 8 (yJ big h r lo o node):=by
 cases big
 ·exact QQ (k:= .u32) (N:=32) (fun z=>IntKind.wrap_u32 z) q 8
 ·exact QQ (k:= .u64) (N:=64) (fun z=>IntKind.wrap_u64 z) q 8
def QG (n:Nat)(zs:List Int):List Int:=zs++List.replicate (n - zs.length) 0
theorem QO {n:Nat}{zs:List Int}(h:zs.length≤n):(QG n zs).length=n:=by simp[QG];omega
theorem qhr {n:Nat}{zs:List Int}(h:zs.length=n):QG n zs=zs:=by simp[QG,h]
theorem yq {n:Nat}{zs:List Int}(h: ∀z∈zs,0≤z∧z≤255): ∀z∈QG n zs,0≤z∧z≤255:=by
 intro z o;rcases List.mem_append.1 o with o|o
 ·exact h z o
 ·rw[List.eq_of_mem_replicate o];omega
def qaE (n:Nat)(msg:List Int)(k:Nat):List Int:=QG n ((msg.drop (n*k)).take n)
theorem qiW {n:Nat}{o x:List Int}{k:Nat}(h:n*(k+1)≤o.length):qaE n (o++x) k=qaE n o k:=by
 have e:n*(k+1)=n*k+n:=Nat.mul_succ n k;unfold qaE;rw[List.drop_append_of_le_length (by omega),List.take_append_of_le_length (by simp;omega)]
def stZ (big:Bool)(h0 msg:List Int):Nat→List Int
 | 0=>h0
 | k+1=>yJ big (stZ big h0 msg k) (qaE (bB big) msg k) ((bB big*(k+1):Nat):Int) false false
theorem Yk (big:Bool){q:List Int}(r:Words (nB big) 8 q)(o:List Int): ∀k,Words (nB big) 8 (stZ big q o k)
 | 0=>r
 | k+1=>QX big (Yk big r o k) _ _ _ _
theorem qdr (big:Bool)(q:List Int){o x:List Int}: ∀{k:Nat},bB big*k≤o.length→stZ big q (o++x) k=stZ big q o k
 | 0,_=>rfl
 | k+1,h=>by
  have e:bB big*(k+1)=bB big*k+bB big:=Nat.mul_succ _ k;rw[stZ,stZ,qdr big q (k:=k) (by omega),qiW h]
def nbk (n len:Nat):Nat:=(len - 1)/n
theorem Yw {n:Nat}(o:0<n)(len:Nat):n*nbk n len≤len∧len≤n*nbk n len+n∧(0<len→n*nbk n len<len):=by
 have q:=Nat.div_add_mod (len - 1) n;have r:=Nat.mod_lt (len - 1) o;unfold nbk;omega
theorem qiz {n len q:Nat}(r:n*q<len)(G:len≤n*q+n):nbk n len=q:=by
 unfold nbk;have o:q*n=n*q:=Nat.mul_comm _ _;have D:(q+1)*n=n*q+n:=by rw[Nat.succ_mul,o]
 exact Nat.div_eq_of_lt_le (by omega) (by omega)
theorem qeN (n:Nat):nbk n 0=0:=by simp[nbk]
def yj (n:Nat)(msg:List Int):List Int:=msg.drop (n*nbk n msg.length)
theorem zK (n:Nat)(o:List Int):(yj n o).length=o.length - n*nbk n o.length:=by simp[yj]
theorem ju {n:Nat}(q:0<n)(o:List Int):(yj n o).length≤n:=by
 rw[zK];have:=Yw q o.length;omega
theorem zL {n:Nat}{o:List Int}(h: ∀z∈o,0≤z∧z≤255): ∀z∈yj n o,0≤z∧z≤255:=fun z q=>h z (List.mem_of_mem_drop q)
theorem qaD {n:Nat}(q:0<n)(o:List Int):qaE n o (nbk n o.length)=QG n (yj n o):=by
 unfold qaE;show QG n ((yj n o).take n)=_
 rw[List.take_of_length_le (ju q o)]
theorem qhy {n:Nat}(G:0<n){o x:List Int}(I:0<x.length)(r:(yj n o).length+x.length≤n):
  nbk n (o++x).length=nbk n o.length∧yj n (o++x)=yj n o++x:=by
 rw[zK]at r;have D:=Yw G o.length;have q:nbk n (o++x).length=nbk n o.length:=qiz (by simp;omega) (by simp;omega);refine⟨q,?_⟩;unfold yj;rw[q,List.drop_append_of_le_length D.1]
theorem qhz {n:Nat}(G:0<n){o x:List Int}(J:0<x.length)(I:x.length≤n)(D:(yj n o).length=n):
  nbk n (o++x).length=nbk n o.length+1∧yj n (o++x)=x∧n*(nbk n o.length+1)=o.length:=by
 rw[zK]at D;have O:=Yw G o.length;have S:n*(nbk n o.length+1)=n*nbk n o.length+n:=Nat.mul_succ _ _;have q:n*(nbk n o.length+1)=o.length:=by omega
 have r:nbk n (o++x).length=nbk n o.length+1:=qiz (by simp;omega) (by simp;omega);refine⟨r,?_,q⟩;unfold yj;rw[r,q,List.drop_left]
def qgC (big:Bool)(h0 msg H:List Int)(lo:Nat)(hl:List Int):Prop:=
 ∀x:List Int,0<x.length→hl.length+x.length≤bB big→stZ big h0 (msg++x) (nbk (bB big) (msg++x).length)=H∧bB big*nbk (bB big) (msg++x).length=lo∧yj (bB big) (msg++x)=hl++x
theorem qcZ (big:Bool)(q o:List Int):qgC big q o (stZ big q o (nbk (bB big) o.length)) (bB big*nbk (bB big) o.length) (yj (bB big) o):=by
 intro x D r;obtain⟨G,I⟩:=qhy (YY big) D r;rw[G,I];exact⟨qdr big q (Yw (YY big) _).1,rfl,rfl⟩
theorem qc0 (big:Bool)(q o:List Int)(r:(yj (bB big) o).length=bB big):
  qgC big q o (yJ big (stZ big q o (nbk (bB big) o.length)) (yj (bB big) o) ((bB big*nbk (bB big) o.length+bB big:Nat):Int) false false) (bB big*nbk (bB big) o.length+bB big) []:=by
 intro x G D;obtain⟨I,J,O⟩:=qhz (YY big) G (by simpa using D) r;have e:bB big*(nbk (bB big) o.length+1)=bB big*nbk (bB big) o.length+bB big:=Nat.mul_succ _ _;rw[I,J];refine⟨?_,e,rfl⟩;rw[qdr big q (by omega),stZ,qaD (YY big),qhr r,e]
theorem JY {n:Nat}(q:0<n)(o:List Int):n*nbk n o.length+(yj n o).length=o.length:=by
 rw[zK];have:=Yw q o.length;omega
def zU (big:Bool)(h0 msg:List Int)(node:Bool):List Int:=
 qQ (wB big) (yJ big (stZ big h0 msg (nbk (bB big) msg.length)) (qaE (bB big) msg (nbk (bB big) msg.length)) (msg.length:Int) true node) 8
theorem Zf (big:Bool)(q o:List Int)(node:Bool):(zU big q o node).length=mB big:=by
 unfold zU;rw[Jn];cases big<;>rfl
theorem qeJ (big:Bool)(q o:List Int)(node:Bool): ∀z∈zU big q o node,0≤z∧z≤255:=Jo _ _ _
def h0Z (big:Bool)(block:List Int):List Int:=yF (wK big) (cond big IVb IVs) (wB big) block
theorem Q0 (big:Bool)(o:List Int):Words (nB big) 8 (h0Z big o):=YN (qjc big) _ _ _
def yz (n:Nat)(key:List Int):List Int:=if key.length=0 then [] else QG n key
theorem zt {n:Nat}{key:List Int}(h: ∀z∈key,0≤z∧z≤255): ∀z∈yz n key,0≤z∧z≤255:=by
 unfold yz;split
 ·intro z o;cases o
 ·exact yq h
theorem zr {n:Nat}{key:List Int}(h:key.length≤n):(yz n key).length≤n:=by
 unfold yz;split
 ·simp
 ·rw[QO h];exact Nat.le_refl _
end Go.Proofs.YthjoojnlnlmljaaGreat
