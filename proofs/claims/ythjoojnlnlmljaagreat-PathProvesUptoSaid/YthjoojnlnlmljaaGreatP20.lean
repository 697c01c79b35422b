/- What the program takes from a block of parameters, of both kinds. No condition. -/
import Derived.Test.YthjoojnlnlmljaaGreatP18
import Derived.Test.YthjoojnlnlmljaaGreatP19
import Derived.Test.YthjoojnlnlmljaaGreatP17
import Derived.Test.YthjoojnlnlmljaaGreatP04
import Derived.Laws.OwnMore
import Derived.Test.YthjoojnlnlmljaaGreatP16
import Derived.Test.YthjoojnlnlmljaaGreatP15
import Derived.Test.YthjoojnlnlmljaaGreatP11
import Derived.Test.YthjoojnlnlmljaaGreatP14
set_option linter.all false
set_option maxRecDepth 100000
set_option maxHeartbeats 8000000
namespace Go.Proofs.YthjoojnlnlmljaaGreat
open Go.ChangeShapes Go.WideShapes Go.ChangeAt Go.RowKit Go.Joins Go.Shelf Go.Maps
open Go.Lib (hid)
attribute [local go_sem] Oper.semAt_some
def okD (big ext:Bool)(zs:List Int):Prop:=zs.length=mB big∧(big=true→ ∀i,18≤i→i<32→qr zs i=0)∧(ext=true→xoZ big ext zs≠0)∧okC big (qr zs 0) (qr zs 1) (qr zs 3) (xoZ big ext zs) (qr zs (atB big 9))
theorem qcH (big:Bool)(zs:List Int)(v:Value)(w:World)(h:Holds8 w v zs)(X: ∀z∈zs,0≤z∧z≤255)(I: ∀a n c,v= .slice a n c→n≤c∧(c:Int)≤9223372036854775807)(aa:okD big false zs):
  Calls Tryz.prog 97 #[.int .i64 (kB big),v,.bool false] w fun e w'=>(∃fo dp lf Y nd U Z O,e= .returned (.tuple #[parV (qr zs 0) (qr zs 1) fo dp lf Y 0 nd U Z O,.int .i64 0])∧Z.oneCell'=true∧O.oneCell'=true)∧Below w.heap.size w w':=by
 obtain⟨a,D,rfl,h⟩:=h;obtain⟨r,hm, -,k0,k1,J,k9⟩:=aa;obtain⟨b,off,rfl,V⟩:=h.resolve_left (fun e=>by rw[e]at r;cases big<;>simp[mB]at r);obtain⟨q,G⟩:=I _ _ _ rfl
 cases big
 ·have o:zs.length=32:=r;rw[o]at q⊢;exact Jp zs b off D w V X q G o k0 k1.2 (J rfl) k9.2
 ·have o:zs.length=64:=r;rw[o]at q⊢;exact JP zs b off D w V X q G o (hm rfl) k0 k1.2 (J rfl) k9.2
end Go.Proofs.YthjoojnlnlmljaaGreat
namespace Go.Proofs.YthjoojnlnlmljaaGreat
open Go.ChangeShapes Go.WideShapes Go.ChangeAt Go.RowKit Go.Joins Go.Shelf Go.Maps
open Go.Lib (hid)
def szE (big ext:Bool)(f:Nat):Nat:=if f=6∧ext=true then 4 else szB big f
theorem Q6 (big ext:Bool)(f:Nat)(q:1≤f)(o:f≤9):1≤szE big ext f∧szE big ext f≤8∧atB big f+szE big ext f≤18∧(big=false→atB big f+szE big ext f≤16):=by
 have h:f=1∨f=2∨f=3∨f=4∨f=5∨f=6∨f=7∨f=8∨f=9:=by omega
 rcases h with rfl|rfl|rfl|rfl|rfl|rfl|rfl|rfl|rfl<;>cases big<;>cases ext<;>decide
def ye (big ext:Bool)(zs:List Int)(f:Nat):Int:=if f=0 then 0 else Qi zs (atB big f) (szE big ext f)
def Jo (big ext:Bool)(zs:List Int):Nat→List Value
 | 0=>[]
 | k+1=>Jo big ext zs k++[.int .u64 (ye big ext zs k)]
theorem zT (big ext:Bool)(zs:List Int): ∀k,(Jo big ext zs k).length=k
 | 0=>rfl
 | k+1=>by simp[Jo,zT big ext zs k]
theorem QI (big ext:Bool)(zs:List Int): ∀k j,j<k→(Jo big ext zs k)[j]? =some (.int .u64 (ye big ext zs j))
 | 0,j,h=>by omega
 | k+1,j,h=>by
  rw[Jo];by_cases e:j=k
  ·subst e;rw[List.getElem?_append_right (by rw[zT];exact Nat.le_refl _),zT];simp
  ·rw[List.getElem?_append_left (by rw[zT];omega)];exact QI big ext zs k j (by omega)
theorem qV {big ext:Bool}{zs:List Int}(q: ∀z∈zs,0≤z∧z≤255)(G:zs.length=mB big){f:Nat}(r:1≤f)(o:f≤9):0≤ye big ext zs f∧ye big ext zs f<2^(8*szE big ext f):=by
 unfold ye;rw[if_neg (by omega)];have:=Q6 big ext f r o
 have D:32≤mB big:=by cases big<;>decide
 exact QL q _ (by omega)
theorem zh (zs:List Int)(a:Nat):Qi zs a 1=qr zs a:=by simp[Qi]
theorem qiL {W:World}{B:Nat}{v:Value}{xs:List Value}(h:W.ownsRow B 44 1 v 10 xs): ∃g q o,v= .slice (some ⟨g,0,none⟩) 10 q∧B≤g∧W.heap[g]? =some (.cells o 44 (0,0))∧10≤o.size∧ ∀j,j<10→o[j]? =xs[j]? :=by
 rcases h.2 with⟨-,D⟩|⟨g,q,o,rfl,G,r,O,J,U,I⟩
 ·cases D
 ·refine⟨g,q,o,rfl,G,r,by omega,fun j V=>?_⟩;rw[←I,List.getElem?_take,if_pos (by omega),Array.getElem?_toList]
end Go.Proofs.YthjoojnlnlmljaaGreat
namespace Go.Proofs.YthjoojnlnlmljaaGreat
open Go.ChangeShapes Go.WideShapes Go.ChangeAt Go.RowKit Go.Joins Go.Shelf Go.Maps
open Go.Lib (hid)
attribute [local go_sem] Oper.semAt_some
theorem ja (zs:List Int)(b off o:Nat)(w:World)(hB:Qs w b off zs)(hz: ∀z∈zs,0≤z∧z≤255)(ca:64≤o)(b9:(o:Int)≤9223372036854775807)(hl:zs.length=64)(bE: ∀i,18≤i→i<32→qr zs i=0)(bR:1≤qr zs 0∧qr zs 0≤64)(ae:qr zs 1≤64)(bG:1≤qr zs 3)(bS:qr zs 17≤64):
  Calls Tryz.prog 152 #[.int .i64 1,.slice (some ⟨b,off,none⟩) 64 o,.bool false] w fun e w'=>(∃sa pe,e= .returned (.tuple #[parV (qr zs 0) (qr zs 1) (qr zs 2) (qr zs 3) (Qi zs 4 4) (Qi zs 8 8) 0 (qr zs 16) (qr zs 17) sa pe,.int .i64 0])∧w'.ownsRow w.heap.size 5 1 sa (Ql ((zs.drop 32).take 16) 16) ((((zs.drop 32).take 16).take (Ql ((zs.drop 32).take 16) 16)).map qt)∧w'.ownsRow w.heap.size 5 1 pe (Ql ((zs.drop 48).take 16) 16) ((((zs.drop 48).take 16).take (Ql ((zs.drop 48).take 16) 16)).map qt))∧Below w.heap.size w w':=by
 obtain⟨h1,h2⟩:=id hB;have HC:=hid h2;have HB:=hid hB;clear h2 hB;obtain⟨i0,hi,bw,bp,bb⟩:=info_parts qbF;obtain⟨X,ax⟩:=Ex (ye true false zs 1);have cc:0≤X∧X<256:=by have:=qV (big:=true) (ext:=false) hz hl (f:=1) (by omega) (by omega);rw[ax]at this;simpa [szE,szB] using this
 have aM:qr zs 0=X:=by rw[←ax];simp[ye,szE,szB,atB,zh]
 rw[aM]at bR;try rw[aM]
 obtain⟨V,aw⟩:=Ex (ye true false zs 2);have cv:0≤V∧V<256:=by have:=qV (big:=true) (ext:=false) hz hl (f:=2) (by omega) (by omega);rw[aw]at this;simpa [szE,szB] using this
 have aN:qr zs 1=V:=by rw[←aw];simp[ye,szE,szB,atB,zh]
 rw[aN]at ae;try rw[aN]
 obtain⟨V3,aE⟩:=Ex (ye true false zs 3);have cy:0≤V3∧V3<256:=by have:=qV (big:=true) (ext:=false) hz hl (f:=3) (by omega) (by omega);rw[aE]at this;simpa [szE,szB] using this
 have bj:qr zs 2=V3:=by rw[←aE];simp[ye,szE,szB,atB,zh]
 try rw[bj]
 obtain⟨V4,aC⟩:=Ex (ye true false zs 4);have co:0≤V4∧V4<256:=by have:=qV (big:=true) (ext:=false) hz hl (f:=4) (by omega) (by omega);rw[aC]at this;simpa [szE,szB] using this
 have aV:qr zs 3=V4:=by rw[←aC];simp[ye,szE,szB,atB,zh]
 rw[aV]at bG;try rw[aV]
 obtain⟨Y,az⟩:=Ex (ye true false zs 5);have cp:0≤Y∧Y<4294967296:=by have:=qV (big:=true) (ext:=false) hz hl (f:=5) (by omega) (by omega);rw[az]at this;simpa [szE,szB] using this
 have br:Qi zs 4 4=Y:=by rw[←az];simp[ye,szE,szB,atB,zh]
 try rw[br]
 obtain⟨V6,au⟩:=Ex (ye true false zs 6);have cb:0≤V6∧V6<18446744073709551616:=by have:=qV (big:=true) (ext:=false) hz hl (f:=6) (by omega) (by omega);rw[au]at this;simpa [szE,szB] using this
 have a9:Qi zs 8 8=V6:=by rw[←au];simp[ye,szE,szB,atB,zh]
 try rw[a9]
 obtain⟨V7,aD⟩:=Ex (ye true false zs 7);have ch:0≤V7∧V7<4294967296:=by have:=qV (big:=true) (ext:=false) hz hl (f:=7) (by omega) (by omega);rw[aD]at this;simpa [szE,szB] using this
 have bd:Qi zs 12 4=V7:=by rw[←aD];simp[ye,szE,szB,atB,zh]
 try rw[bd]
 obtain⟨Z,ay⟩:=Ex (ye true false zs 8);have ci:0≤Z∧Z<256:=by have:=qV (big:=true) (ext:=false) hz hl (f:=8) (by omega) (by omega);rw[ay]at this;simpa [szE,szB] using this
 have bl:qr zs 16=Z:=by rw[←ay];simp[ye,szE,szB,atB,zh]
 try rw[bl]
 obtain⟨U,ar⟩:=Ex (ye true false zs 9);have cr:0≤U∧U<256:=by have:=qV (big:=true) (ext:=false) hz hl (f:=9) (by omega) (by omega);rw[ar]at this;simpa [szE,szB] using this
 have aO:qr zs 17=U:=by rw[←ar];simp[ye,szE,szB,atB,zh]
 rw[aO]at bS;try rw[aO]
 have hs: ∀w:World,Calls Tryz.prog 167 #[.int .i64 1] w fun e w'=>e= .returned (.int .i64 64)∧w'=w:=Yo true
 obtain⟨G,an⟩:=Ex w.heap.size;have aW:b<G:=by rw[←an];exact h1
 have bq: ∀W,Below G w W→Holds8 W (.slice (some ⟨b,off,none⟩) 64 o) zs:=fun W hW=>⟨some ⟨b,off,none⟩,o,by rw[hl],.inr ⟨b,off,rfl,Nat.lt_of_lt_of_le h1 hW.size,fun i hi=>(hW.cell (p:=⟨b,off+i,none⟩) aW).trans (HC.out i hi)⟩⟩
 have bf:=hid bq;clear bq;have aB:Below G w (w.alloc (.cells #[.int .i64 0,.int .i64 0,.int .i64 0,.int .i64 0,.int .u32 0,.int .u64 0,.int .u32 0,.int .i64 0,.int .i64 0,.slice none 0 0,.slice none 0 0] 171)):=by rw[←an];exact Br.alloc Nl _
 have aR:=Wn w (.cells #[.int .i64 0,.int .i64 0,.int .i64 0,.int .i64 0,.int .u32 0,.int .u64 0,.int .u32 0,.int .i64 0,.int .i64 0,.slice none 0 0,.slice none 0 0] 171);rw[an]at aR;have bg:(w.alloc (.cells #[.int .i64 0,.int .i64 0,.int .i64 0,.int .i64 0,.int .u32 0,.int .u64 0,.int .u32 0,.int .i64 0,.int .i64 0,.slice none 0 0,.slice none 0 0] 171)).heap.size=G+1:=by simp[an]
 go_enter Tryz.func152,Tryz.ntmps152
 go_wp2_with fail
 refine(qcj true _ _ _ _).mono ?_;rintro e w1 ⟨⟨x,rfl,hx⟩,hw⟩;rw[hw];clear hw;obtain rfl:x=0:=hx.2 rfl;clear hx;generalize w.alloc (.cells #[.int .i64 0,.int .i64 0,.int .i64 0,.int .i64 0,.int .u32 0,.int .u64 0,.int .u32 0,.int .i64 0,.int .i64 0,.slice none 0 0,.slice none 0 0] 171)=w2 at*;have HR:=hid aR;clear aR;go_wp2_with fail
 go_loopw [9] (fun i wr=> ∃k:Nat,i= .int .i64 (k:Nat)∧18≤k∧k≤32∧w2=wr) (fun i _=>32 - (intOf i).toNat)
 case atStart=>exact⟨18,rfl,by omega,by omega,rfl⟩
 case round=>
  obtain⟨k,rfl,ae,bt,rfl⟩:=hrel;by_cases ak:k<32
  ·have hc:=(aB.cell (p:=⟨b,off+k,none⟩) aW).trans (HC.out k (by omega));rw[bE k ae ak]at hc;have k3:(k:Int)<64:=by omega
   have k4:0≤(k:Int):=by omega
   go_wp2
   exact⟨⟨k+1,rfl,by omega,by omega,by trivial⟩,by simp[intOf];omega⟩
  ·obtain rfl:k=32:=by omega
   go_wp2_with fail
   have av:(w2.alloc (.cells #[.int .u64 0] 44)).ownsRow (G+1) 44 1 (.slice (some ⟨G+1,0,none⟩) 1 1) 1 (Jo true false zs 1):=by have:=World.ownsRow_lit (base:=G+1) (e:=44) (size:=1) w2 #[.int .u64 0] 1 (by omega) (by decide) rfl;rwa[bg]at this
   have aZ:Below (G+1) w2 (w2.alloc (.cells #[.int .u64 0] 44)):=Br.alloc (by omega) _;go_loopw [10,11] (fun v f wr=> ∃(k:Nat),f= .int .i64 (k:Nat)∧1≤k∧k≤10∧wr.ownsRow (G+1) 44 1 v k (Jo true false zs k)∧Below (G+1) w2 wr) (fun _ i _=>10 - (intOf i).toNat)
   case atStart=>exact⟨1,rfl,by omega,by omega,av,aZ⟩
   case round=>
    clear av aZ;obtain⟨f,rfl,ae,bt,ad,hb⟩:=hrel;have bN:=hb.size;by_cases ak:f≤9
    ·have bi:=Q6 true false f ae ak;have bk:ye true false zs f=Qi zs (atB true f) (szE true false f):=if_neg (by omega);have e1:=hid (show Jo true false zs (f+1)=Jo true false zs f++[.int .u64 (Qi zs (atB true f) (szE true false f))] by rw[Jo,bk]);have k5:(f:Int)≤9:=by omega
     have aJ:=hid (jJ true f ⟨ae,ak⟩);obtain⟨ao,aj⟩:=Ex (atB true f);obtain⟨bu,aq⟩:=Ex (szB true f);obtain⟨ag,ah⟩:=Ex (szE true false f);have bv:=hid ah;have a7:=hid aq;rw[aj,ah]at e1;rw[aj,aq]at aJ;rw[aj,ah]at bi;clear bk aj aq ah;obtain⟨j1,j2,j3,j4⟩:=bi;have j5:ao+ag≤zs.length:=by omega
     clear j4;have bs:Below G w wr:=aB.trans (hb.mono (by omega));by_cases aG:f=6
     case pos=>
      subst aG;go_wp2_with fail
      refine(aJ.out _).mono ?_;rintro r w4 ⟨rfl,hw⟩;rw[hw];clear hw;obtain rfl:ag=bu:=by rw[←bv.out,←a7.out];simp[szE]
      go_wp2_with fail
      refine(Zw zs _ ao ag _ (bf.out _ bs) hz (by omega) (by omega) (by omega)).mono ?_;rintro r w5 ⟨rfl,hw⟩;rw[hw];clear hw;go_wp2_with (at_builtin;refine wpList_append_own _ rfl _ _ 105 rfl (G+1) 44 i0 (.int .u64 0) 1 8 Tryz.underlying105 hi bw bp bb rfl (by decide) _ _ _ rfl (ad.alloc _) ⟨wr.heap.size,0,none⟩ 1 1 [.int .u64 (Qi zs ao ag)] rfl rfl (cell_one_new _ _ _) (by simp[Value.oneCell']) (by unfold maxLen;omega) (by omega) (by simp;omega) ?_;intro v' w6 ac ai _;have af:Below (G+1) w2 w6:=(hb.alloc (by omega) _).grown ai (by simp;omega) (fun k e=>(ad.lt k e).1))
      rw[←e1.out]at ac;refine⟨⟨_,_,_,_,_,_,_,_,_,_,_,_,_,_,_,_,_,_,_,_,_,_,_,_,_,_,⟨7,rfl,by omega,by omega,ac,af⟩,rfl⟩,?_⟩;first|(simp[intOf];done)|(simp[intOf];omega)
     case neg=>
      go_wp2_with fail
      refine(aJ.out _).mono ?_;rintro r w4 ⟨rfl,hw⟩;rw[hw];clear hw;obtain rfl:ag=bu:=by rw[←bv.out,←a7.out];simp[szE,aG]
      have ct: ¬((f:Int)=6):=by omega
      have cd: ¬(f=6):=aG;go_wp2_with fail
      refine(Zw zs _ ao ag _ (bf.out _ bs) hz (by omega) (by omega) (by omega)).mono ?_;rintro r w5 ⟨rfl,hw⟩;rw[hw];clear hw;go_wp2_with (at_builtin;refine wpList_append_own _ rfl _ _ 105 rfl (G+1) 44 i0 (.int .u64 0) 1 8 Tryz.underlying105 hi bw bp bb rfl (by decide) _ _ _ rfl (ad.alloc _) ⟨wr.heap.size,0,none⟩ 1 1 [.int .u64 (Qi zs ao ag)] rfl rfl (cell_one_new _ _ _) (by simp[Value.oneCell']) (by unfold maxLen;omega) (by omega) (by simp;omega) ?_;intro v' w6 ac ai _;have af:Below (G+1) w2 w6:=(hb.alloc (by omega) _).grown ai (by simp;omega) (fun k e=>(ad.lt k e).1))
      rw[←e1.out]at ac;refine⟨⟨_,_,_,_,_,_,_,_,_,_,_,_,_,_,_,_,_,_,_,_,_,_,_,_,_,_,⟨f+1,rfl,by omega,by omega,ac,af⟩,rfl⟩,?_⟩;first|(simp[intOf];done)|(simp[intOf];omega)
    ·obtain rfl:f=10:=by omega
     obtain⟨g,cg,I,rfl,cA,ap,bF,ab⟩:=qiL ad;have aQ:=hid ap;have a6:I[1]? =some (.int .u64 X):=by rw[ab 1 (by omega),QI _ _ _ _ _ (by omega),ax]
     have aF:I[2]? =some (.int .u64 V):=by rw[ab 2 (by omega),QI _ _ _ _ _ (by omega),aw]
     have aX:I[3]? =some (.int .u64 V3):=by rw[ab 3 (by omega),QI _ _ _ _ _ (by omega),aE]
     have aU:I[4]? =some (.int .u64 V4):=by rw[ab 4 (by omega),QI _ _ _ _ _ (by omega),aC]
     have aT:I[5]? =some (.int .u64 Y):=by rw[ab 5 (by omega),QI _ _ _ _ _ (by omega),az]
     have a4:I[6]? =some (.int .u64 V6):=by rw[ab 6 (by omega),QI _ _ _ _ _ (by omega),au]
     have a3:I[7]? =some (.int .u64 V7):=by rw[ab 7 (by omega),QI _ _ _ _ _ (by omega),aD]
     have aS:I[8]? =some (.int .u64 Z):=by rw[ab 8 (by omega),QI _ _ _ _ _ (by omega),ay]
     have aP:I[9]? =some (.int .u64 U):=by rw[ab 9 (by omega),QI _ _ _ _ _ (by omega),ar]
     have aa:g<wr.heap.size:=(Ai ap).1;have c7:=(qd ap 7).trans a3;have f7:=frozen_of_row wr g 7 _ _ ap;have ba:Below G w wr:=aB.trans (hb.mono (by omega));have aA:wr.heap[G]? =some (.cells #[.int .i64 0,.int .i64 0,.int .i64 0,.int .i64 0,.int .u32 0,.int .u64 0,.int .u32 0,.int .i64 0,.int .i64 0,.slice none 0 0,.slice none 0 0] 171 (0,0)):=(hb.block G (by omega)).trans HR.out;clear ab ad HR hb ak ae bt ap bg aB ax aM aw aN aE bj aC aV az br au a9 aD bd ay bl ar aO;go_upto_region 21 with(fail)
     have J:=heap_setCell_same wr g 7 _ _ (.int .u64 0) aQ.out;have bV:=hid ((qd J 1).trans (show(I.setIfInBounds 7 (.int .u64 0))[1]? =some (.int .u64 (X)) by rw[Array.getElem?_setIfInBounds];simpa using a6));have b4:=hid ((qd J 2).trans (show(I.setIfInBounds 7 (.int .u64 0))[2]? =some (.int .u64 (V)) by rw[Array.getElem?_setIfInBounds];simpa using aF));have b3:=hid ((qd J 3).trans (show(I.setIfInBounds 7 (.int .u64 0))[3]? =some (.int .u64 (V3)) by rw[Array.getElem?_setIfInBounds];simpa using aX));have bJ:=hid ((qd J 4).trans (show(I.setIfInBounds 7 (.int .u64 0))[4]? =some (.int .u64 (V4)) by rw[Array.getElem?_setIfInBounds];simpa using aU));have bW:=hid ((qd J 5).trans (show(I.setIfInBounds 7 (.int .u64 0))[5]? =some (.int .u64 (Y)) by rw[Array.getElem?_setIfInBounds];simpa using aT));have bQ:=hid ((qd J 6).trans (show(I.setIfInBounds 7 (.int .u64 0))[6]? =some (.int .u64 (V6)) by rw[Array.getElem?_setIfInBounds];simpa using a4));have bO:=hid ((qd J 7).trans (show(I.setIfInBounds 7 (.int .u64 0))[7]? =some (.int .u64 (0)) by rw[Array.getElem?_setIfInBounds];simp;omega));have b7:=hid ((qd J 8).trans (show(I.setIfInBounds 7 (.int .u64 0))[8]? =some (.int .u64 (Z)) by rw[Array.getElem?_setIfInBounds];simpa using aS));have bI:=hid ((qd J 9).trans (show(I.setIfInBounds 7 (.int .u64 0))[9]? =some (.int .u64 (U)) by rw[Array.getElem?_setIfInBounds];simpa using aP));have bP:Below G w (wr.setCell ⟨g,7,none⟩ (.int .u64 0)):=ba.setCell (by show G≤g;omega) _;have be:(wr.setCell ⟨g,7,none⟩ (.int .u64 0)).heap[G]? =some (.cells #[.int .i64 0,.int .i64 0,.int .i64 0,.int .i64 0,.int .u32 0,.int .u64 0,.int .u32 0,.int .i64 0,.int .i64 0,.slice none 0 0,.slice none 0 0] 171 (0,0)):=(heap_setCell_other wr _ _ _ (by show G≠g;omega)).trans aA;have aK:(wr.setCell ⟨g,7,none⟩ (.int .u64 0)).heap.size=wr.heap.size:=by simp[World.setCell]
     rw[←aK]at aa bN;clear ba aQ J aK c7 f7 aA;generalize wr.setCell ⟨g,7,none⟩ (.int .u64 0)=W8 at*;have aA:=be;clear be;clear a6 aF aX aU aT a4 a3 aS aP bF;go_wp2_with fail
     refine(hs _).mono ?_;rintro r w9 ⟨rfl,hw⟩;rw[hw];clear hw;go_upto_region 22 with(fail)
     refine qE (n:=49) (w0:=W8) (B:=W8.heap.size) [.v 72 (.slice (some ⟨g,0,none⟩) 10 cg),.v 73 (.pointer (some ⟨g,1,none⟩)),.v 74 (.int .u64 X),.v 75 (.int .i64 X),.v 76 (.slice (some ⟨g,0,none⟩) 10 cg),.v 77 (.pointer (some ⟨g,2,none⟩)),.v 78 (.int .u64 V),.v 79 (.int .i64 V),.v 80 (.slice (some ⟨g,0,none⟩) 10 cg),.v 81 (.pointer (some ⟨g,3,none⟩)),.v 82 (.int .u64 V3),.v 83 (.int .i64 V3),.v 84 (.slice (some ⟨g,0,none⟩) 10 cg),.v 85 (.pointer (some ⟨g,4,none⟩)),.v 86 (.int .u64 V4),.v 87 (.int .i64 V4),.v 88 (.slice (some ⟨g,0,none⟩) 10 cg),.v 89 (.pointer (some ⟨g,5,none⟩)),.v 90 (.int .u64 Y),.v 91 (.int .u32 Y),.v 92 (.slice (some ⟨g,0,none⟩) 10 cg),.v 93 (.pointer (some ⟨g,6,none⟩)),.v 94 (.int .u64 V6),.v 95 (.slice (some ⟨g,0,none⟩) 10 cg),.v 96 (.pointer (some ⟨g,7,none⟩)),.v 97 (.int .u64 0),.v 98 (.int .u32 0),.v 99 (.slice (some ⟨g,0,none⟩) 10 cg),.v 100 (.pointer (some ⟨g,8,none⟩)),.v 101 (.int .u64 Z),.v 102 (.int .i64 Z),.v 103 (.slice (some ⟨g,0,none⟩) 10 cg),.v 104 (.pointer (some ⟨g,9,none⟩)),.v 105 (.int .u64 U),.v 106 (.int .i64 U),.v 107 (.slice (some ⟨b,off,none⟩) 64 o),.v 108 (.int .i64 16),.v 109 (.int .i64 32),.v 110 (.int .i64 16),.v 111 (.int .i64 48),.v 112 (.slice (some ⟨b,off+32,none⟩) 16 (o - 32)),.v 113 (.slice (some ⟨b,off,none⟩) 64 o),.v 114 (.int .i64 16),.v 115 (.int .i64 48),.v 116 (.int .i64 16),.v 117 (.int .i64 64),.v 118 (.slice (some ⟨b,off+48,none⟩) 16 (o - 48)),.v 119 (.agg #[.int .i64 X,.int .i64 V,.int .i64 V3,.int .i64 V4,.int .u32 Y,.int .u64 V6,.int .u32 0,.int .i64 Z,.int .i64 U,.slice (some ⟨b,off+32,none⟩) 16 (o - 32),.slice (some ⟨b,off+48,none⟩) 16 (o - 48)]),.p 15 (fun u W=> ∃p,u= .pointer (some ⟨p,0,none⟩)∧W8.heap.size≤p∧W.heap[p]? =some (.cells #[.int .i64 0,.int .i64 0,.int .i64 0,.int .i64 0,.int .u32 0,.int .u64 0,.int .u32 0,.int .i64 0,.int .i64 0,.slice none 0 0,.slice none 0 0] 171 (0,0)))] (by exact⟨(fun _ _ _ h hb=>by obtain⟨p,e,h3,h4⟩:=h;exact⟨p,e,h3,qg h4 hb⟩),trivial⟩) Br.drew Nl ?_ ?_
     ·repeat' (with_reducible first|exact qz|refine qx ?_ ?_)
      all_goals try
       intro A x W O hW am q D K hK;have bU:=O.2 10 (by decide);conv at bU=>rhs;whnf
       have a1:=O.2 1 (by decide);conv at a1=>rhs;whnf
       have b6:=O.2 14 (by decide);conv at b6=>rhs;whnf
       simp only[QW,Q8]at D;clear q O;first
       | go_simp
         exact hK _ _ BR rfl
       | have y0:=(hW.cell (p:=⟨g,1,none⟩) aa).trans bV.out
         have y1:g<W.heap.size:=by omega
         have y2:IntKind.i64.wrap X=X:=by rw[IntKind.wrap_i64];omega
         have y3:=(hW.cell (p:=⟨g,2,none⟩) aa).trans b4.out;have y4:IntKind.i64.wrap V=V:=by rw[IntKind.wrap_i64];omega
         have y5:=(hW.cell (p:=⟨g,3,none⟩) aa).trans b3.out;have y6:IntKind.i64.wrap V3=V3:=by rw[IntKind.wrap_i64];omega
         have y7:=(hW.cell (p:=⟨g,4,none⟩) aa).trans bJ.out;have y8:IntKind.i64.wrap V4=V4:=by rw[IntKind.wrap_i64];omega
         have y9:=(hW.cell (p:=⟨g,5,none⟩) aa).trans bW.out;have cz:IntKind.u32.wrap Y=Y:=u32_wrap_id _ (by omega) (by omega);have cj:=(hW.cell (p:=⟨g,6,none⟩) aa).trans bQ.out;have ck:=(hW.cell (p:=⟨g,7,none⟩) aa).trans bO.out;have cw:=(hW.cell (p:=⟨g,8,none⟩) aa).trans b7.out;have cu:IntKind.i64.wrap Z=Z:=by rw[IntKind.wrap_i64];omega
         have cf:=(hW.cell (p:=⟨g,9,none⟩) aa).trans bI.out;have cl:IntKind.i64.wrap U=U:=by rw[IntKind.wrap_i64];omega
         have cm: ¬o=32:=by omega
         have cx: ¬o=48:=by omega
         have cn:64≤(o:Int):=by omega
         have ce:48≤(o:Int):=by omega
         go_simp
         exact hK _ _ BR rfl
      ·intro A x W O hW am q _ K hK;have bY:=gv O q 3 75;have bT:=gv O q 7 79;have bX:=gv O q 11 83;have bH:=gv O q 15 87;have bM:=gv O q 19 91;have bL:=gv O q 22 94;have bZ:=gv O q 26 98;have bx:=gv O q 30 102;have bA:=gv O q 34 106;have bD:=gv O q 40 112;have bC:=gv O q 46 118;clear q O;refine zH 171 _ rfl #[.int .i64 X,.int .i64 V,.int .i64 V3,.int .i64 V4,.int .u32 Y,.int .u64 V6,.int .u32 0,.int .i64 Z,.int .i64 U,.slice (some ⟨b,off+32,none⟩) 16 (o - 32),.slice (some ⟨b,off+48,none⟩) 16 (o - 48)] ?_ (hK _ _ Br rfl);simp only[List.map_toArray,List.map_cons,List.map_nil,Act.eval,bY,bT,bX,bH,bM,bL,bZ,bx,bA,bD,bC];kernel_rfl
      ·intro A x W O hW am q _ K hK;clear q O;go_simp
       exact hK _ _ (Br.alloc Nl _) ⟨W.heap.size,rfl,am,Wn W _⟩
     intro x W hW am bz;obtain⟨bc, -⟩:=bz;change (fun u W=> ∃p,u= .pointer (some ⟨p,0,none⟩)∧W8.heap.size≤p∧W.heap[p]? =some (.cells #[.int .i64 0,.int .i64 0,.int .i64 0,.int .i64 0,.int .u32 0,.int .u64 0,.int .u32 0,.int .i64 0,.int .i64 0,.slice none 0 0,.slice none 0 0] 171 (0,0))) (x 15) W at bc
     obtain⟨p,ep,b8,aL⟩:=bc;refine qp ?_;simp only[QF,Act.put,Ls,ep];refine wpList_store_row rfl 171 _ _ rfl p #[.int .i64 X,.int .i64 V,.int .i64 V3,.int .i64 V4,.int .u32 Y,.int .u64 V6,.int .u32 0,.int .i64 Z,.int .i64 U,.slice (some ⟨b,off+32,none⟩) 16 (o - 32),.slice (some ⟨b,off+48,none⟩) 16 (o - 48)] rfl rfl 171 _ aL (by kernel_rfl) rfl (by simp[Value.oneCell']) ?_;refine qw ?_;have al:Below W8.heap.size W8 (W.setRow p #[.int .i64 X,.int .i64 V,.int .i64 V3,.int .i64 V4,.int .u32 Y,.int .u64 V6,.int .u32 0,.int .i64 Z,.int .i64 U,.slice (some ⟨b,off+32,none⟩) 16 (o - 32),.slice (some ⟨b,off+48,none⟩) 16 (o - 48)]):=below_setRow hW b8 _;have bo:=setRow_heap W p _ #[.int .i64 X,.int .i64 V,.int .i64 V3,.int .i64 V4,.int .u32 Y,.int .u64 V6,.int .u32 0,.int .i64 Z,.int .i64 U,.slice (some ⟨b,off+32,none⟩) 16 (o - 32),.slice (some ⟨b,off+48,none⟩) 16 (o - 48)] _ _ aL;generalize W.setRow p #[.int .i64 X,.int .i64 V,.int .i64 V3,.int .i64 V4,.int .u32 Y,.int .u64 V6,.int .u32 0,.int .i64 Z,.int .i64 U,.slice (some ⟨b,off+32,none⟩) 16 (o - 32),.slice (some ⟨b,off+48,none⟩) 16 (o - 48)]=W3 at al bo⊢;clear ep aL hW am x W;have cq:=al.size;have af:Below G w W3:=bP.trans (al.mono (by omega));have b5:W3.heap[G]? =some (.cells #[.int .i64 0,.int .i64 0,.int .i64 0,.int .i64 0,.int .u32 0,.int .u64 0,.int .u32 0,.int .i64 0,.int .i64 0,.slice none 0 0,.slice none 0 0] 171 (0,0)):=(al.block G (by omega)).trans aA;have aY:Qs W3 b off zs:=⟨Nat.lt_of_lt_of_le h1 af.size,fun i hi=>(af.cell (p:=⟨b,off+i,none⟩) aW).trans (HC.out i hi)⟩;have aH:=JC true X V V3 V4 Y V6 Z U ((zs.drop 32).take 16) ((zs.drop 48).take 16) b (off+32) (o - 32) b (off+48) (o - 48) W3 (Y8 aY (by omega)) (Y8 aY (by omega)) (by rw[Qz (by omega)];omega) (by rw[Qz (by omega)];omega) (by rw[Qz (by omega)];decide) (by rw[Qz (by omega)];decide) ⟨by simp only[mB,cond];omega,by simp only[mB,cond];omega,by omega,by omega,⟨by omega,fun h=>by cases h⟩,by omega,by simp only[mB,cond];omega⟩;rw[Qz (by omega),Qz (by omega)]at aH;have bm:=hid aH;clear aH aY al;go_wp2_with ((with_reducible show wpList _ _ _ (Oper.mk _ (Op.load 171 _) _ _ _ _::_) _ _);refine wpList_load_row rfl 171 _ rfl p rfl _ _ _ _ bo Tryz.underlying171 rfl (by kernel_rfl) ?_)
     refine bm.out.mono ?_;rintro r w7 ⟨⟨sa,pe,rfl,os,op⟩,bn⟩;clear bm;have bh:=qg b5 bn;have bK:Below G w w7:=af.trans (bn.mono (by omega));obtain⟨a5,n5,k5,rfl⟩:=qs os;obtain⟨a8,n8,k8,rfl⟩:=qs op;unfold parV;go_wp2_with ((with_reducible show wpList _ _ _ (Oper.mk _ (Op.store 171 _ _) _ _ _ _::_) _ _);refine wpList_store_row rfl 171 _ _ rfl G #[.int .i64 X,.int .i64 V,.int .i64 V3,.int .i64 V4,.int .u32 Y,.int .u64 V6,.int .u32 0,.int .i64 Z,.int .i64 U,.slice a5 n5 k5,.slice a8 n8 k8] rfl rfl 171 _ bh (by kernel_rfl) rfl (by simp[Value.oneCell']) ?_)
     have aI: ∀{v:Value} {n:Nat} {xs:List Value},w7.ownsRow W3.heap.size 5 1 v n xs→(w7.setRow G #[.int .i64 X,.int .i64 V,.int .i64 V3,.int .i64 V4,.int .u32 Y,.int .u64 V6,.int .u32 0,.int .i64 Z,.int .i64 U,.slice a5 n5 k5,.slice a8 n8 k8]).ownsRow w.heap.size 5 1 v n xs:=fun h=>ownsRow_le (qi h (fun g g1 _=>setRow_other _ _ _ _ (by omega))) (by omega)
     exact Bp (qA rfl _ _ G _ _ _ _ rfl (setRow_heap _ G _ _ _ _ bh) Tryz.underlying171 rfl (by kernel_rfl)) rfl ⟨⟨_,_,rfl,aI os,aI op⟩,by rw[an];exact below_setRow bK Nl _⟩
theorem ZO (zs:List Int)(b off o:Nat)(w:World)(hB:Qs w b off zs)(hz: ∀z∈zs,0≤z∧z≤255)(b9:32≤o)(b8:(o:Int)≤9223372036854775807)(hl:zs.length=32)(bP:1≤qr zs 0∧qr zs 0≤32)(aj:qr zs 1≤32)(bE:1≤qr zs 3)(bQ:qr zs 15≤32):
  Calls Tryz.prog 152 #[.int .i64 2,.slice (some ⟨b,off,none⟩) 32 o,.bool false] w fun e w'=>(∃sa pe,e= .returned (.tuple #[parV (qr zs 0) (qr zs 1) (qr zs 2) (qr zs 3) (Qi zs 4 4) (Qi zs 8 6) 0 (qr zs 14) (qr zs 15) sa pe,.int .i64 0])∧w'.ownsRow w.heap.size 5 1 sa (Ql ((zs.drop 16).take 8) 8) ((((zs.drop 16).take 8).take (Ql ((zs.drop 16).take 8) 8)).map qt)∧w'.ownsRow w.heap.size 5 1 pe (Ql ((zs.drop 24).take 8) 8) ((((zs.drop 24).take 8).take (Ql ((zs.drop 24).take 8) 8)).map qt))∧Below w.heap.size w w':=by
 obtain⟨h1,h2⟩:=id hB;have HC:=hid h2;have HB:=hid hB;clear h2 hB;obtain⟨i0,hi,bv,bp,ba⟩:=info_parts qbF;obtain⟨X,aw⟩:=Ex (ye false false zs 1);have cb:0≤X∧X<256:=by have:=qV (big:=false) (ext:=false) hz hl (f:=1) (by omega) (by omega);rw[aw]at this;simpa [szE,szB] using this
 have aL:qr zs 0=X:=by rw[←aw];simp[ye,szE,szB,atB,zh]
 rw[aL]at bP;try rw[aL]
 obtain⟨V,av⟩:=Ex (ye false false zs 2);have cu:0≤V∧V<256:=by have:=qV (big:=false) (ext:=false) hz hl (f:=2) (by omega) (by omega);rw[av]at this;simpa [szE,szB] using this
 have aM:qr zs 1=V:=by rw[←av];simp[ye,szE,szB,atB,zh]
 rw[aM]at aj;try rw[aM]
 obtain⟨V3,aC⟩:=Ex (ye false false zs 3);have cx:0≤V3∧V3<256:=by have:=qV (big:=false) (ext:=false) hz hl (f:=3) (by omega) (by omega);rw[aC]at this;simpa [szE,szB] using this
 have bi:qr zs 2=V3:=by rw[←aC];simp[ye,szE,szB,atB,zh]
 try rw[bi]
 obtain⟨V4,aA⟩:=Ex (ye false false zs 4);have cn:0≤V4∧V4<256:=by have:=qV (big:=false) (ext:=false) hz hl (f:=4) (by omega) (by omega);rw[aA]at this;simpa [szE,szB] using this
 have aU:qr zs 3=V4:=by rw[←aA];simp[ye,szE,szB,atB,zh]
 rw[aU]at bE;try rw[aU]
 obtain⟨Y,ay⟩:=Ex (ye false false zs 5);have co:0≤Y∧Y<4294967296:=by have:=qV (big:=false) (ext:=false) hz hl (f:=5) (by omega) (by omega);rw[ay]at this;simpa [szE,szB] using this
 have br:Qi zs 4 4=Y:=by rw[←ay];simp[ye,szE,szB,atB,zh]
 try rw[br]
 obtain⟨V6,ar⟩:=Ex (ye false false zs 6);have ca:0≤V6∧V6<281474976710656:=by have:=qV (big:=false) (ext:=false) hz hl (f:=6) (by omega) (by omega);rw[ar]at this;simpa [szE,szB] using this
 have a7:Qi zs 8 6=V6:=by rw[←ar];simp[ye,szE,szB,atB,zh]
 try rw[a7]
 obtain⟨V7,aB⟩:=Ex (ye false false zs 7);have cf:0≤V7∧V7<65536:=by have:=qV (big:=false) (ext:=false) hz hl (f:=7) (by omega) (by omega);rw[aB]at this;simpa [szE,szB] using this
 have bc:Qi zs 12 2=V7:=by rw[←aB];simp[ye,szE,szB,atB,zh]
 try rw[bc]
 obtain⟨Z,ax⟩:=Ex (ye false false zs 8);have ch:0≤Z∧Z<256:=by have:=qV (big:=false) (ext:=false) hz hl (f:=8) (by omega) (by omega);rw[ax]at this;simpa [szE,szB] using this
 have bk:qr zs 14=Z:=by rw[←ax];simp[ye,szE,szB,atB,zh]
 try rw[bk]
 obtain⟨U,aq⟩:=Ex (ye false false zs 9);have cq:0≤U∧U<256:=by have:=qV (big:=false) (ext:=false) hz hl (f:=9) (by omega) (by omega);rw[aq]at this;simpa [szE,szB] using this
 have aN:qr zs 15=U:=by rw[←aq];simp[ye,szE,szB,atB,zh]
 rw[aN]at bQ;try rw[aN]
 have hs: ∀w:World,Calls Tryz.prog 167 #[.int .i64 2] w fun e w'=>e= .returned (.int .i64 32)∧w'=w:=Yo false
 obtain⟨G,am⟩:=Ex w.heap.size;have bn:b<G:=by rw[←am];exact h1
 have bq: ∀W,Below G w W→Holds8 W (.slice (some ⟨b,off,none⟩) 32 o) zs:=fun W hW=>⟨some ⟨b,off,none⟩,o,by rw[hl],.inr ⟨b,off,rfl,Nat.lt_of_lt_of_le h1 hW.size,fun i hi=>(hW.cell (p:=⟨b,off+i,none⟩) bn).trans (HC.out i hi)⟩⟩
 have be:=hid bq;clear bq;have aZ:Below G w (w.alloc (.cells #[.int .i64 0,.int .i64 0,.int .i64 0,.int .i64 0,.int .u32 0,.int .u64 0,.int .u32 0,.int .i64 0,.int .i64 0,.slice none 0 0,.slice none 0 0] 171)):=by rw[←am];exact Br.alloc Nl _
 have aQ:=Wn w (.cells #[.int .i64 0,.int .i64 0,.int .i64 0,.int .i64 0,.int .u32 0,.int .u64 0,.int .u32 0,.int .i64 0,.int .i64 0,.slice none 0 0,.slice none 0 0] 171);rw[am]at aQ;have bf:(w.alloc (.cells #[.int .i64 0,.int .i64 0,.int .i64 0,.int .i64 0,.int .u32 0,.int .u64 0,.int .u32 0,.int .i64 0,.int .i64 0,.slice none 0 0,.slice none 0 0] 171)).heap.size=G+1:=by simp[am]
 go_enter Tryz.func152,Tryz.ntmps152
 go_wp2_with fail
 refine(qcj false _ _ _ _).mono ?_;rintro e w1 ⟨⟨x,rfl,hx⟩,hw⟩;rw[hw];clear hw;obtain rfl:x=0:=hx.2 rfl;clear hx;generalize w.alloc (.cells #[.int .i64 0,.int .i64 0,.int .i64 0,.int .i64 0,.int .u32 0,.int .u64 0,.int .u32 0,.int .i64 0,.int .i64 0,.slice none 0 0,.slice none 0 0] 171)=w2 at*;have HR:=hid aQ;clear aQ;go_wp2_with fail
 go_loopw [9] (fun i wr=>i= .int .i64 18∧w2=wr) (fun _ _=>0)
 case atStart=>exact⟨rfl,rfl⟩
 case round=>
  obtain⟨rfl,rfl⟩:=hrel
  ·skip
   go_wp2_with fail
   have au:(w2.alloc (.cells #[.int .u64 0] 44)).ownsRow (G+1) 44 1 (.slice (some ⟨G+1,0,none⟩) 1 1) 1 (Jo false false zs 1):=by have:=World.ownsRow_lit (base:=G+1) (e:=44) (size:=1) w2 #[.int .u64 0] 1 (by omega) (by decide) rfl;rwa[bf]at this
   have aX:Below (G+1) w2 (w2.alloc (.cells #[.int .u64 0] 44)):=Br.alloc (by omega) _;go_loopw [10,11] (fun v f wr=> ∃(k:Nat),f= .int .i64 (k:Nat)∧1≤k∧k≤10∧wr.ownsRow (G+1) 44 1 v k (Jo false false zs k)∧Below (G+1) w2 wr) (fun _ i _=>10 - (intOf i).toNat)
   case atStart=>exact⟨1,rfl,by omega,by omega,au,aX⟩
   case round=>
    clear au aX;obtain⟨f,rfl,aj,b4,ad,hb⟩:=hrel;have bL:=hb.size;by_cases aK:f≤9
    ·have bh:=Q6 false false f aj aK;have bj:ye false false zs f=Qi zs (atB false f) (szE false false f):=if_neg (by omega);have e1:=hid (show Jo false false zs (f+1)=Jo false false zs f++[.int .u64 (Qi zs (atB false f) (szE false false f))] by rw[Jo,bj]);have k5:(f:Int)≤9:=by omega
     have aH:=hid (jJ false f ⟨aj,aK⟩);obtain⟨an,ai⟩:=Ex (atB false f);obtain⟨bt,ap⟩:=Ex (szB false f);obtain⟨af,ag⟩:=Ex (szE false false f);have bu:=hid ag;have a6:=hid ap;rw[ai,ag]at e1;rw[ai,ap]at aH;rw[ai,ag]at bh;clear bj ai ap ag;obtain⟨j1,j2,j3,j4⟩:=bh;have j5:an+af≤zs.length:=by omega
     clear j4;have bs:Below G w wr:=aZ.trans (hb.mono (by omega));by_cases aE:f=6
     case pos=>
      subst aE;go_wp2_with fail
      refine(aH.out _).mono ?_;rintro r w4 ⟨rfl,hw⟩;rw[hw];clear hw;obtain rfl:af=bt:=by rw[←bu.out,←a6.out];simp[szE]
      go_wp2_with fail
      refine(Zw zs _ an af _ (be.out _ bs) hz (by omega) (by omega) (by omega)).mono ?_;rintro r w5 ⟨rfl,hw⟩;rw[hw];clear hw;go_wp2_with (at_builtin;refine wpList_append_own _ rfl _ _ 105 rfl (G+1) 44 i0 (.int .u64 0) 1 8 Tryz.underlying105 hi bv bp ba rfl (by decide) _ _ _ rfl (ad.alloc _) ⟨wr.heap.size,0,none⟩ 1 1 [.int .u64 (Qi zs an af)] rfl rfl (cell_one_new _ _ _) (by simp[Value.oneCell']) (by unfold maxLen;omega) (by omega) (by simp;omega) ?_;intro v' w6 ac ah _;have ae:Below (G+1) w2 w6:=(hb.alloc (by omega) _).grown ah (by simp;omega) (fun k e=>(ad.lt k e).1))
      rw[←e1.out]at ac;refine⟨⟨7,rfl,by omega,by omega,ac,ae⟩,?_⟩;first|(simp[intOf];done)|(simp[intOf];omega)
     case neg=>
      go_wp2_with fail
      refine(aH.out _).mono ?_;rintro r w4 ⟨rfl,hw⟩;rw[hw];clear hw;obtain rfl:af=bt:=by rw[←bu.out,←a6.out];simp[szE,aE]
      have cr: ¬((f:Int)=6):=by omega
      have cc: ¬(f=6):=aE;go_wp2_with fail
      refine(Zw zs _ an af _ (be.out _ bs) hz (by omega) (by omega) (by omega)).mono ?_;rintro r w5 ⟨rfl,hw⟩;rw[hw];clear hw;go_wp2_with (at_builtin;refine wpList_append_own _ rfl _ _ 105 rfl (G+1) 44 i0 (.int .u64 0) 1 8 Tryz.underlying105 hi bv bp ba rfl (by decide) _ _ _ rfl (ad.alloc _) ⟨wr.heap.size,0,none⟩ 1 1 [.int .u64 (Qi zs an af)] rfl rfl (cell_one_new _ _ _) (by simp[Value.oneCell']) (by unfold maxLen;omega) (by omega) (by simp;omega) ?_;intro v' w6 ac ah _;have ae:Below (G+1) w2 w6:=(hb.alloc (by omega) _).grown ah (by simp;omega) (fun k e=>(ad.lt k e).1))
      rw[←e1.out]at ac;refine⟨⟨f+1,rfl,by omega,by omega,ac,ae⟩,?_⟩;first|(simp[intOf];done)|(simp[intOf];omega)
    ·obtain rfl:f=10:=by omega
     obtain⟨g,cg,I,rfl,cz,ao,bD,ab⟩:=qiL ad;have aP:=hid ao;have a4:I[1]? =some (.int .u64 X):=by rw[ab 1 (by omega),QI _ _ _ _ _ (by omega),aw]
     have aD:I[2]? =some (.int .u64 V):=by rw[ab 2 (by omega),QI _ _ _ _ _ (by omega),av]
     have aV:I[3]? =some (.int .u64 V3):=by rw[ab 3 (by omega),QI _ _ _ _ _ (by omega),aC]
     have aT:I[4]? =some (.int .u64 V4):=by rw[ab 4 (by omega),QI _ _ _ _ _ (by omega),aA]
     have aS:I[5]? =some (.int .u64 Y):=by rw[ab 5 (by omega),QI _ _ _ _ _ (by omega),ay]
     have a3:I[6]? =some (.int .u64 V6):=by rw[ab 6 (by omega),QI _ _ _ _ _ (by omega),ar]
     have aY:I[7]? =some (.int .u64 V7):=by rw[ab 7 (by omega),QI _ _ _ _ _ (by omega),aB]
     have aR:I[8]? =some (.int .u64 Z):=by rw[ab 8 (by omega),QI _ _ _ _ _ (by omega),ax]
     have aO:I[9]? =some (.int .u64 U):=by rw[ab 9 (by omega),QI _ _ _ _ _ (by omega),aq]
     have aa:g<wr.heap.size:=(Ai ao).1;have c7:=(qd ao 7).trans aY;have f7:=frozen_of_row wr g 7 _ _ ao;have a9:Below G w wr:=aZ.trans (hb.mono (by omega));have az:wr.heap[G]? =some (.cells #[.int .i64 0,.int .i64 0,.int .i64 0,.int .i64 0,.int .u32 0,.int .u64 0,.int .u32 0,.int .i64 0,.int .i64 0,.slice none 0 0,.slice none 0 0] 171 (0,0)):=(hb.block G (by omega)).trans HR.out;clear ab ad HR hb aK aj b4 ao bf aZ aw aL av aM aC bi aA aU ay br ar a7 aB bc ax bk aq aN;go_upto_region 21 with(fail)
     have J:=heap_setCell_same wr g 7 _ _ (.int .u64 0) aP.out;have bT:=hid ((qd J 1).trans (show(I.setIfInBounds 7 (.int .u64 0))[1]? =some (.int .u64 (X)) by rw[Array.getElem?_setIfInBounds];simpa using a4));have bZ:=hid ((qd J 2).trans (show(I.setIfInBounds 7 (.int .u64 0))[2]? =some (.int .u64 (V)) by rw[Array.getElem?_setIfInBounds];simpa using aD));have bY:=hid ((qd J 3).trans (show(I.setIfInBounds 7 (.int .u64 0))[3]? =some (.int .u64 (V3)) by rw[Array.getElem?_setIfInBounds];simpa using aV));have bH:=hid ((qd J 4).trans (show(I.setIfInBounds 7 (.int .u64 0))[4]? =some (.int .u64 (V4)) by rw[Array.getElem?_setIfInBounds];simpa using aT));have bU:=hid ((qd J 5).trans (show(I.setIfInBounds 7 (.int .u64 0))[5]? =some (.int .u64 (Y)) by rw[Array.getElem?_setIfInBounds];simpa using aS));have bO:=hid ((qd J 6).trans (show(I.setIfInBounds 7 (.int .u64 0))[6]? =some (.int .u64 (V6)) by rw[Array.getElem?_setIfInBounds];simpa using a3));have bM:=hid ((qd J 7).trans (show(I.setIfInBounds 7 (.int .u64 0))[7]? =some (.int .u64 (0)) by rw[Array.getElem?_setIfInBounds];simp;omega));have b6:=hid ((qd J 8).trans (show(I.setIfInBounds 7 (.int .u64 0))[8]? =some (.int .u64 (Z)) by rw[Array.getElem?_setIfInBounds];simpa using aR));have bG:=hid ((qd J 9).trans (show(I.setIfInBounds 7 (.int .u64 0))[9]? =some (.int .u64 (U)) by rw[Array.getElem?_setIfInBounds];simpa using aO));have bN:Below G w (wr.setCell ⟨g,7,none⟩ (.int .u64 0)):=a9.setCell (by show G≤g;omega) _;have bd:(wr.setCell ⟨g,7,none⟩ (.int .u64 0)).heap[G]? =some (.cells #[.int .i64 0,.int .i64 0,.int .i64 0,.int .i64 0,.int .u32 0,.int .u64 0,.int .u32 0,.int .i64 0,.int .i64 0,.slice none 0 0,.slice none 0 0] 171 (0,0)):=(heap_setCell_other wr _ _ _ (by show G≠g;omega)).trans az;have aI:(wr.setCell ⟨g,7,none⟩ (.int .u64 0)).heap.size=wr.heap.size:=by simp[World.setCell]
     rw[←aI]at aa bL;clear a9 aP J aI c7 f7 az;generalize wr.setCell ⟨g,7,none⟩ (.int .u64 0)=W8 at*;have az:=bd;clear bd;clear a4 aD aV aT aS a3 aY aR aO bD;go_wp2_with fail
     refine(hs _).mono ?_;rintro r w9 ⟨rfl,hw⟩;rw[hw];clear hw;go_upto_region 22 with(fail)
     refine qE (n:=49) (w0:=W8) (B:=W8.heap.size) [.v 72 (.slice (some ⟨g,0,none⟩) 10 cg),.v 73 (.pointer (some ⟨g,1,none⟩)),.v 74 (.int .u64 X),.v 75 (.int .i64 X),.v 76 (.slice (some ⟨g,0,none⟩) 10 cg),.v 77 (.pointer (some ⟨g,2,none⟩)),.v 78 (.int .u64 V),.v 79 (.int .i64 V),.v 80 (.slice (some ⟨g,0,none⟩) 10 cg),.v 81 (.pointer (some ⟨g,3,none⟩)),.v 82 (.int .u64 V3),.v 83 (.int .i64 V3),.v 84 (.slice (some ⟨g,0,none⟩) 10 cg),.v 85 (.pointer (some ⟨g,4,none⟩)),.v 86 (.int .u64 V4),.v 87 (.int .i64 V4),.v 88 (.slice (some ⟨g,0,none⟩) 10 cg),.v 89 (.pointer (some ⟨g,5,none⟩)),.v 90 (.int .u64 Y),.v 91 (.int .u32 Y),.v 92 (.slice (some ⟨g,0,none⟩) 10 cg),.v 93 (.pointer (some ⟨g,6,none⟩)),.v 94 (.int .u64 V6),.v 95 (.slice (some ⟨g,0,none⟩) 10 cg),.v 96 (.pointer (some ⟨g,7,none⟩)),.v 97 (.int .u64 0),.v 98 (.int .u32 0),.v 99 (.slice (some ⟨g,0,none⟩) 10 cg),.v 100 (.pointer (some ⟨g,8,none⟩)),.v 101 (.int .u64 Z),.v 102 (.int .i64 Z),.v 103 (.slice (some ⟨g,0,none⟩) 10 cg),.v 104 (.pointer (some ⟨g,9,none⟩)),.v 105 (.int .u64 U),.v 106 (.int .i64 U),.v 107 (.slice (some ⟨b,off,none⟩) 32 o),.v 108 (.int .i64 8),.v 109 (.int .i64 16),.v 110 (.int .i64 8),.v 111 (.int .i64 24),.v 112 (.slice (some ⟨b,off+16,none⟩) 8 (o - 16)),.v 113 (.slice (some ⟨b,off,none⟩) 32 o),.v 114 (.int .i64 8),.v 115 (.int .i64 24),.v 116 (.int .i64 8),.v 117 (.int .i64 32),.v 118 (.slice (some ⟨b,off+24,none⟩) 8 (o - 24)),.v 119 (.agg #[.int .i64 X,.int .i64 V,.int .i64 V3,.int .i64 V4,.int .u32 Y,.int .u64 V6,.int .u32 0,.int .i64 Z,.int .i64 U,.slice (some ⟨b,off+16,none⟩) 8 (o - 16),.slice (some ⟨b,off+24,none⟩) 8 (o - 24)]),.p 15 (fun u W=> ∃p,u= .pointer (some ⟨p,0,none⟩)∧W8.heap.size≤p∧W.heap[p]? =some (.cells #[.int .i64 0,.int .i64 0,.int .i64 0,.int .i64 0,.int .u32 0,.int .u64 0,.int .u32 0,.int .i64 0,.int .i64 0,.slice none 0 0,.slice none 0 0] 171 (0,0)))] (by exact⟨(fun _ _ _ h hb=>by obtain⟨p,e,h3,h4⟩:=h;exact⟨p,e,h3,qg h4 hb⟩),trivial⟩) Br.drew Nl ?_ ?_
     ·repeat' (with_reducible first|exact qz|refine qx ?_ ?_)
      all_goals try
       intro A x W O hW al q D K hK;have bS:=O.2 10 (by decide);conv at bS=>rhs;whnf
       have a1:=O.2 1 (by decide);conv at a1=>rhs;whnf
       have b5:=O.2 14 (by decide);conv at b5=>rhs;whnf
       simp only[QW,Q8]at D;clear q O;first
       | go_simp
         exact hK _ _ BR rfl
       | have y0:=(hW.cell (p:=⟨g,1,none⟩) aa).trans bT.out
         have y1:g<W.heap.size:=by omega
         have y2:IntKind.i64.wrap X=X:=by rw[IntKind.wrap_i64];omega
         have y3:=(hW.cell (p:=⟨g,2,none⟩) aa).trans bZ.out;have y4:IntKind.i64.wrap V=V:=by rw[IntKind.wrap_i64];omega
         have y5:=(hW.cell (p:=⟨g,3,none⟩) aa).trans bY.out;have y6:IntKind.i64.wrap V3=V3:=by rw[IntKind.wrap_i64];omega
         have y7:=(hW.cell (p:=⟨g,4,none⟩) aa).trans bH.out;have y8:IntKind.i64.wrap V4=V4:=by rw[IntKind.wrap_i64];omega
         have y9:=(hW.cell (p:=⟨g,5,none⟩) aa).trans bU.out;have cy:IntKind.u32.wrap Y=Y:=u32_wrap_id _ (by omega) (by omega);have ci:=(hW.cell (p:=⟨g,6,none⟩) aa).trans bO.out;have cj:=(hW.cell (p:=⟨g,7,none⟩) aa).trans bM.out;have cv:=(hW.cell (p:=⟨g,8,none⟩) aa).trans b6.out;have ct:IntKind.i64.wrap Z=Z:=by rw[IntKind.wrap_i64];omega
         have ce:=(hW.cell (p:=⟨g,9,none⟩) aa).trans bG.out;have ck:IntKind.i64.wrap U=U:=by rw[IntKind.wrap_i64];omega
         have cl: ¬o=16:=by omega
         have cw: ¬o=24:=by omega
         have cm:32≤(o:Int):=by omega
         have cd:24≤(o:Int):=by omega
         go_simp
         exact hK _ _ BR rfl
      ·intro A x W O hW al q _ K hK;have bW:=gv O q 3 75;have bR:=gv O q 7 79;have bV:=gv O q 11 83;have bF:=gv O q 15 87;have bK:=gv O q 19 91;have bJ:=gv O q 22 94;have bX:=gv O q 26 98;have bw:=gv O q 30 102;have bz:=gv O q 34 106;have bC:=gv O q 40 112;have bA:=gv O q 46 118;clear q O;refine zH 171 _ rfl #[.int .i64 X,.int .i64 V,.int .i64 V3,.int .i64 V4,.int .u32 Y,.int .u64 V6,.int .u32 0,.int .i64 Z,.int .i64 U,.slice (some ⟨b,off+16,none⟩) 8 (o - 16),.slice (some ⟨b,off+24,none⟩) 8 (o - 24)] ?_ (hK _ _ Br rfl);simp only[List.map_toArray,List.map_cons,List.map_nil,Act.eval,bW,bR,bV,bF,bK,bJ,bX,bw,bz,bC,bA];kernel_rfl
      ·intro A x W O hW al q _ K hK;clear q O;go_simp
       exact hK _ _ (Br.alloc Nl _) ⟨W.heap.size,rfl,al,Wn W _⟩
     intro x W hW al bx;obtain⟨bb, -⟩:=bx;change (fun u W=> ∃p,u= .pointer (some ⟨p,0,none⟩)∧W8.heap.size≤p∧W.heap[p]? =some (.cells #[.int .i64 0,.int .i64 0,.int .i64 0,.int .i64 0,.int .u32 0,.int .u64 0,.int .u32 0,.int .i64 0,.int .i64 0,.slice none 0 0,.slice none 0 0] 171 (0,0))) (x 15) W at bb
     obtain⟨p,ep,b7,aJ⟩:=bb;refine qp ?_;simp only[QF,Act.put,Ls,ep];refine wpList_store_row rfl 171 _ _ rfl p #[.int .i64 X,.int .i64 V,.int .i64 V3,.int .i64 V4,.int .u32 Y,.int .u64 V6,.int .u32 0,.int .i64 Z,.int .i64 U,.slice (some ⟨b,off+16,none⟩) 8 (o - 16),.slice (some ⟨b,off+24,none⟩) 8 (o - 24)] rfl rfl 171 _ aJ (by kernel_rfl) rfl (by simp[Value.oneCell']) ?_;refine qw ?_;have ak:Below W8.heap.size W8 (W.setRow p #[.int .i64 X,.int .i64 V,.int .i64 V3,.int .i64 V4,.int .u32 Y,.int .u64 V6,.int .u32 0,.int .i64 Z,.int .i64 U,.slice (some ⟨b,off+16,none⟩) 8 (o - 16),.slice (some ⟨b,off+24,none⟩) 8 (o - 24)]):=below_setRow hW b7 _;have bo:=setRow_heap W p _ #[.int .i64 X,.int .i64 V,.int .i64 V3,.int .i64 V4,.int .u32 Y,.int .u64 V6,.int .u32 0,.int .i64 Z,.int .i64 U,.slice (some ⟨b,off+16,none⟩) 8 (o - 16),.slice (some ⟨b,off+24,none⟩) 8 (o - 24)] _ _ aJ;generalize W.setRow p #[.int .i64 X,.int .i64 V,.int .i64 V3,.int .i64 V4,.int .u32 Y,.int .u64 V6,.int .u32 0,.int .i64 Z,.int .i64 U,.slice (some ⟨b,off+16,none⟩) 8 (o - 16),.slice (some ⟨b,off+24,none⟩) 8 (o - 24)]=W3 at ak bo⊢;clear ep aJ hW al x W;have cp:=ak.size;have ae:Below G w W3:=bN.trans (ak.mono (by omega));have b3:W3.heap[G]? =some (.cells #[.int .i64 0,.int .i64 0,.int .i64 0,.int .i64 0,.int .u32 0,.int .u64 0,.int .u32 0,.int .i64 0,.int .i64 0,.slice none 0 0,.slice none 0 0] 171 (0,0)):=(ak.block G (by omega)).trans az;have aW:Qs W3 b off zs:=⟨Nat.lt_of_lt_of_le h1 ae.size,fun i hi=>(ae.cell (p:=⟨b,off+i,none⟩) bn).trans (HC.out i hi)⟩;have aF:=JC false X V V3 V4 Y V6 Z U ((zs.drop 16).take 8) ((zs.drop 24).take 8) b (off+16) (o - 16) b (off+24) (o - 24) W3 (Y8 aW (by omega)) (Y8 aW (by omega)) (by rw[Qz (by omega)];omega) (by rw[Qz (by omega)];omega) (by rw[Qz (by omega)];decide) (by rw[Qz (by omega)];decide) ⟨by simp only[mB,cond];omega,by simp only[mB,cond];omega,by omega,by omega,⟨by omega,fun h=>by omega⟩,by omega,by simp only[mB,cond];omega⟩;rw[Qz (by omega),Qz (by omega)]at aF;have bl:=hid aF;clear aF aW ak;go_wp2_with ((with_reducible show wpList _ _ _ (Oper.mk _ (Op.load 171 _) _ _ _ _::_) _ _);refine wpList_load_row rfl 171 _ rfl p rfl _ _ _ _ bo Tryz.underlying171 rfl (by kernel_rfl) ?_)
     refine bl.out.mono ?_;rintro r w7 ⟨⟨sa,pe,rfl,os,op⟩,bm⟩;clear bl;have bg:=qg b3 bm;have bI:Below G w w7:=ae.trans (bm.mono (by omega));obtain⟨a5,n5,k5,rfl⟩:=qs os;obtain⟨a8,n8,k8,rfl⟩:=qs op;unfold parV;go_wp2_with ((with_reducible show wpList _ _ _ (Oper.mk _ (Op.store 171 _ _) _ _ _ _::_) _ _);refine wpList_store_row rfl 171 _ _ rfl G #[.int .i64 X,.int .i64 V,.int .i64 V3,.int .i64 V4,.int .u32 Y,.int .u64 V6,.int .u32 0,.int .i64 Z,.int .i64 U,.slice a5 n5 k5,.slice a8 n8 k8] rfl rfl 171 _ bg (by kernel_rfl) rfl (by simp[Value.oneCell']) ?_)
     have aG: ∀{v:Value} {n:Nat} {xs:List Value},w7.ownsRow W3.heap.size 5 1 v n xs→(w7.setRow G #[.int .i64 X,.int .i64 V,.int .i64 V3,.int .i64 V4,.int .u32 Y,.int .u64 V6,.int .u32 0,.int .i64 Z,.int .i64 U,.slice a5 n5 k5,.slice a8 n8 k8]).ownsRow w.heap.size 5 1 v n xs:=fun h=>ownsRow_le (qi h (fun g g1 _=>setRow_other _ _ _ _ (by omega))) (by omega)
     exact Bp (qA rfl _ _ G _ _ _ _ rfl (setRow_heap _ G _ _ _ _ bg) Tryz.underlying171 rfl (by kernel_rfl)) rfl ⟨⟨_,_,rfl,aG os,aG op⟩,by rw[am];exact below_setRow bI Nl _⟩
end Go.Proofs.YthjoojnlnlmljaaGreat
namespace Go.Proofs.YthjoojnlnlmljaaGreat
open Go.ChangeShapes Go.WideShapes Go.ChangeAt Go.RowKit Go.Joins Go.Shelf Go.Maps
open Go.Lib (hid)
attribute [local go_sem] Oper.semAt_some YT
theorem qcY (x n:Nat)(hn:n≤8)(hx:(x:Int)≤18446744073709551615)(w:World):
  Calls Tryz.prog 192 #[.int .u64 x,.int .i64 (n:Nat)] w fun e w'=> ∃v,e= .returned v∧w'.ownsRow w.heap.size 5 1 v n ((qZ x n).map qt)∧Below w.heap.size w w':=by
 obtain⟨i0,Z,U,V,I⟩:=info_parts Qr;go_enter Tryz.func192,Tryz.ntmps192
 go_wp2_with fail
 go_loopw [0,5,6] (fun t o i wr=> ∃(k:Nat) (v:Value),t= .int .u64 (z8 x k:Nat)∧o=v∧i= .int .i64 k∧k≤n∧wr.ownsRow w.heap.size 5 1 v k ((qZ x k).map qt)∧Below w.heap.size w wr) (fun _ _ i _=>n - (intOf i).toNat)
 case atStart=>exact⟨0,_,by simp[z8],rfl,rfl,by omega,Wo _ _ _ _,Below.refl _ _⟩
 case round=>
  obtain⟨k,v,rfl,rfl,rfl,hk,q,G⟩:=hrel;have O:=G.size;by_cases aa:k<n
  ·have q1:=qdT x k;have q2:=qdU x k;have q4:IntKind.u64.wrap ((z8 x (k+1):Nat):Int)=((z8 x (k+1):Nat):Int):=u64_wrap_id _ (by omega) (by have:=qa0 x (k+1);omega);have q3:(z8 x k:Int)≤18446744073709551615:=by have:=qa0 x k;omega
   have J:(qZ x (k+1)).map qt=(qZ x k).map qt++[.int .u8 (byt x k)]:=by rw[Y9,List.map_append];rfl
   have Y:=hid J;clear J;go_wp2_with (at_builtin;refine wpList_append_own _ rfl _ _ 24 rfl w.heap.size 5 i0 (.int .u8 0) 1 1 Tryz.underlying24 Z U V I rfl (by decide) _ _ _ rfl (q.alloc _) ⟨wr.heap.size,0,none⟩ 1 1 [.int .u8 (byt x k)] rfl rfl (cell_one_new _ _ _) (by simp[Value.oneCell']) (by unfold maxLen;omega) (by omega) (by simp;omega) ?_;intro v' w2 r D _;have X:Below w.heap.size w w2:=(G.alloc O _).grown D (by simp;omega) (fun k e=>(q.lt k e).1))
   rw[←Y.out]at r;exact⟨⟨k+1,v',rfl,rfl,rfl,by omega,r,X⟩,by simp[intOf];omega⟩
  ·obtain rfl:k=n:=by omega
   go_wp2
   go_ret
   exact⟨_,rfl,q,G⟩
def wB (big:Bool):Nat:=cond big 8 4
theorem qbr (big:Bool)(w:World):
  Calls Tryz.prog 154 #[.int .i64 (kB big)] w fun e w'=>e= .returned (.int .i64 (mB big:Nat))∧w'=w:=by
 cases big<;>
 ·simp only[kB,mB,cond];go_enter Tryz.func154,Tryz.ntmps154
  go_wp2
  go_ret
  exact⟨rfl,rfl⟩
theorem qax (big:Bool)(h:List Int)(hh:Words 64 16 h)(w:World):
  Calls Tryz.prog 178 #[.int .i64 (kB big),.agg (qj .u64 h)] w fun e w'=> ∃v,e= .returned v∧w'.ownsRow w.heap.size 5 1 v (wB big*8) ((qN (wB big) h 8).map qt)∧Below w.heap.size w w':=by
 obtain⟨i0,hi,an,ap,ah⟩:=info_parts Qr;obtain⟨G,Z⟩:=Ex w.heap.size;have ar:Below G w (w.alloc (.cells (qj .u64 h) 252)):=by rw[←Z];exact Br.alloc Nl _
 have ac:wB big≤8:=by cases big<;>decide
 have aA:0<wB big:=by cases big<;>decide
 have aw:(((mB big:Nat):Int).tdiv 8)=(wB big:Nat):=by cases big<;>rfl
 go_enter Tryz.func178,Tryz.ntmps178
 go_wp2_with fail
 go_loopw [5,6] (fun o i wr=> ∃(k:Nat) (v:Value),o=v∧i= .int .i64 k∧k≤8∧wr.ownsRow (G+1) 5 1 v (wB big*k) ((qN (wB big) h k).map qt)∧Below (G+1) (w.alloc (.cells (qj .u64 h) 252)) wr) (fun _ i _=>8 - (intOf i).toNat)
 case atStart=>exact⟨0,_,rfl,rfl,by omega,Wo _ _ _ _,Below.refl _ _⟩
 case round=>
  obtain⟨k,v,rfl,rfl,hk,aa,V⟩:=hrel;have am:G+1≤wr.heap.size:=by have:=V.size;simp at this;omega
  by_cases aB:k<8
  ·have af:wr.cell? ⟨G,k,none⟩=some (.int .u64 (wd h k)):=by
    rw[V.cell (p:=⟨G,k,none⟩) (by show G<G+1;omega),←Z,qd (Wn w _) k];exact qC hh (by omega)
   have ae:G<wr.heap.size:=by omega
   have ak:=yy hh (show k<16 by omega);obtain⟨X,hX,al⟩: ∃X:Nat,wd h k=(X:Int)∧(wd h k).toNat=X:=⟨(wd h k).toNat,by omega,rfl⟩;rw[hX]at af ak;have aj:(X:Int)≤18446744073709551615:=by omega
   have ax:wB big*k≤64:=by have:=Nat.mul_le_mul ac (show k≤8 by omega);omega
   have av:IntKind.i64.wrap (((mB big:Nat):Int).tdiv 8)=(wB big:Nat):=by cases big<;>rfl
   have au:IntKind.i64.wrap ((wB big:Nat):Int)=(wB big:Nat):=by cases big<;>rfl
   have k1:(k:Int)<16:=by omega
   have k2:0≤(k:Int):=by omega
   have ai:Below wr.heap.size wr wr.drew:=Br.drew;go_wp2_with fail
   rw[decide_eq_true (show(k:Int)<8 by omega)];refine qE (n:=8) (w0:=wr) (B:=wr.heap.size) [.v 11 u5,.v 12 (.int .i64 (k:Nat)),.v 13 (.pointer (some ⟨G,k,none⟩)),.v 14 (.int .u64 (X:Nat)),.v 15 (.int .i64 (kB big)),.v 16 (.int .i64 (mB big:Nat)),.v 17 (.int .i64 (wB big:Nat)),.p 18 (fun u W=>W.ownsRow wr.heap.size 5 1 u (wB big) ((qZ X (wB big)).map qt))] (by exact⟨(fun _ _ _ h V=>qi h (fun g _ g2=>V.block g g2)),trivial⟩) ai Nl ?_ ?_
   ·repeat' (with_reducible first|exact qz|refine qx ?_ ?_)
    all_goals try
     intro A x W I Y J q D K U;have a5:=I.2 5 (by decide);conv at a5=>rhs;whnf
     have a6:=I.2 6 (by decide);conv at a6=>rhs;whnf
     have a3:=I.2 3 (by decide);conv at a3=>rhs;whnf
     have a0:=I.2 0 (by decide);conv at a0=>rhs;whnf
     simp only[QW,Q8]at D;clear q I;first
     | go_simp
       exact U _ _ BR rfl
     | have y0:=(Y.cell (p:=⟨G,k,none⟩) ae).trans af
       have y1:G<W.heap.size:=Nat.lt_of_lt_of_le ae J;go_simp
       exact U _ _ BR rfl
    ·intro A x W I Y J q _ K U;have az:=gv I q 4 15;clear q I;go_simp
     refine(qbr big W).mono ?_;rintro r w2 ⟨rfl,rfl⟩
     exact U _ _ BR rfl
    ·intro A x W I Y J q _ K U;have aC:=gv I q 3 14;have ay:=gv I q 6 17;clear q I;go_simp
     refine(qcY X (wB big) ac aj W).mono ?_;rintro r w2 ⟨u,rfl,ab,ao⟩
     exact U _ _ ao (ownsRow_le ab J)
   intro x W Y J ag;obtain⟨ad, -⟩:=ag;change (fun u W=>W.ownsRow wr.heap.size 5 1 u (wB big) ((qZ X (wB big)).map qt)) (x 18) W at ad
   refine qp ?_;simp only[QF,Act.put,Ls];refine qT rfl _ _ _ (by rfl) (w.alloc (.cells (qj .u64 h) 252)) (G+1) (by simp;omega) (V.trans (Y.mono am)) 5 i0 (.int .u8 0) 1 Tryz.underlying24 hi an ap ah rfl _ (wB big*k) ((qN (wB big) h k).map qt) (by rfl) (qi aa (fun g _ g2=>Y.block g g2)) (x 18) (wB big) ((qZ X (wB big)).map qt) (by rfl) (qeP ad (by simp[qt,Value.oneCell'])) (by unfold maxLen;omega) (by omega) ?_;intro v' w' O aq;refine qp ?_;rw[←List.map_append,←al]at O;simp only[Act.put,Ls];go_wp2_with fail
   refine qw ?_;go_wp2_with fail
   exact⟨⟨k+1,v',rfl,rfl,by omega,O,aq⟩,by simp[intOf];omega⟩
  ·obtain rfl:k=8:=by omega
   go_wp2
   go_ret
   refine⟨_,rfl,ownsRow_le aa (by omega),?_⟩;rw[Z];exact ar.trans (V.mono (by omega))
def bB (big:Bool):Nat:=cond big 128 64
def nB (big:Bool):Nat:=cond big 64 32
def wK (big:Bool):IntKind:=cond big .u64 .u32
theorem YH (big:Bool):0<bB big:=by cases big<;>decide
theorem qif (big:Bool): ∀z,(wK big).wrap z=z%2^nB big:=by
 cases big
 ·intro z;exact IntKind.wrap_u32 z
 ·intro z;exact IntKind.wrap_u64 z
def yD (big:Bool)(h bs:List Int)(lo:Int)(last node:Bool):List Int:=
 cond big (zV mixBig IVb 12 h (QZ 8 16 bs) lo 0 last node) (zV mixSmall IVs 10 h (QZ 4 16 bs) (lo%4294967296) (lo/4294967296) last node)
theorem QV (big:Bool){h:List Int}(q:Words (nB big) 8 h)(D:List Int)(r:Int)(o node:Bool):Words (nB big) 8 (yD big h D r o node):=by
 cases big
 ·exact QO (k:= .u32) (N:=32) (fun z=>IntKind.wrap_u32 z) q 8
 ·exact QO (k:= .u64) (N:=64) (fun z=>IntKind.wrap_u64 z) q 8
def QH (n:Nat)(zs:List Int):List Int:=zs++List.replicate (n - zs.length) 0
theorem QM {n:Nat}{zs:List Int}(h:zs.length≤n):(QH n zs).length=n:=by simp[QH];omega
theorem qgq {n:Nat}{zs:List Int}(h:zs.length=n):QH n zs=zs:=by simp[QH,h]
theorem yl {n:Nat}{zs:List Int}(h: ∀z∈zs,0≤z∧z≤255): ∀z∈QH n zs,0≤z∧z≤255:=by
 intro z o;rcases List.mem_append.1 o with o|o
 ·exact h z o
 ·rw[List.eq_of_mem_replicate o];omega
def qam (n:Nat)(msg:List Int)(k:Nat):List Int:=QH n ((msg.drop (n*k)).take n)
theorem qhV {n:Nat}{o x:List Int}{k:Nat}(h:n*(k+1)≤o.length):qam n (o++x) k=qam n o k:=by
 have e:n*(k+1)=n*k+n:=Nat.mul_succ n k;unfold qam;rw[List.drop_append_of_le_length (by omega),List.take_append_of_le_length (by simp;omega)]
def stZ (big:Bool)(h0 msg:List Int):Nat→List Int
 | 0=>h0
 | k+1=>yD big (stZ big h0 msg k) (qam (bB big) msg k) ((bB big*(k+1):Nat):Int) false false
theorem yX (big:Bool){r:List Int}(q:Words (nB big) 8 r)(o:List Int): ∀k,Words (nB big) 8 (stZ big r o k)
 | 0=>q
 | k+1=>QV big (yX big q o k) _ _ _ _
theorem qcR (big:Bool)(q:List Int){o x:List Int}: ∀{k:Nat},bB big*k≤o.length→stZ big q (o++x) k=stZ big q o k
 | 0,_=>rfl
 | k+1,h=>by
  have e:bB big*(k+1)=bB big*k+bB big:=Nat.mul_succ _ k;rw[stZ,stZ,qcR big q (k:=k) (by omega),qhV h]
def nbk (n len:Nat):Nat:=(len - 1)/n
theorem Yg {n:Nat}(o:0<n)(len:Nat):n*nbk n len≤len∧len≤n*nbk n len+n∧(0<len→n*nbk n len<len):=by
 have r:=Nat.div_add_mod (len - 1) n;have q:=Nat.mod_lt (len - 1) o;unfold nbk;omega
theorem qhx {n len q:Nat}(G:n*q<len)(r:len≤n*q+n):nbk n len=q:=by
 unfold nbk;have o:q*n=n*q:=Nat.mul_comm _ _;have D:(q+1)*n=n*q+n:=by rw[Nat.succ_mul,o]
 exact Nat.div_eq_of_lt_le (by omega) (by omega)
theorem qd4 (n:Nat):nbk n 0=0:=by simp[nbk]
def yf (n:Nat)(msg:List Int):List Int:=msg.drop (n*nbk n msg.length)
theorem zn (n:Nat)(o:List Int):(yf n o).length=o.length - n*nbk n o.length:=by simp[yf]
theorem jg {n:Nat}(q:0<n)(o:List Int):(yf n o).length≤n:=by
 rw[zn];have:=Yg q o.length;omega
theorem zp {n:Nat}{o:List Int}(h: ∀z∈o,0≤z∧z≤255): ∀z∈yf n o,0≤z∧z≤255:=fun z q=>h z (List.mem_of_mem_drop q)
theorem qal {n:Nat}(q:0<n)(o:List Int):qam n o (nbk n o.length)=QH n (yf n o):=by
 unfold qam;show QH n ((yf n o).take n)=_
 rw[List.take_of_length_le (jg q o)]
theorem qgB {n:Nat}(D:0<n){o x:List Int}(I:0<x.length)(G:(yf n o).length+x.length≤n):
  nbk n (o++x).length=nbk n o.length∧yf n (o++x)=yf n o++x:=by
 rw[zn]at G;have r:=Yg D o.length;have q:nbk n (o++x).length=nbk n o.length:=qhx (by simp;omega) (by simp;omega);refine⟨q,?_⟩;unfold yf;rw[q,List.drop_append_of_le_length r.1]
theorem qgC {n:Nat}(D:0<n){o x:List Int}(J:0<x.length)(I:x.length≤n)(G:(yf n o).length=n):
  nbk n (o++x).length=nbk n o.length+1∧yf n (o++x)=x∧n*(nbk n o.length+1)=o.length:=by
 rw[zn]at G;have O:=Yg D o.length;have U:n*(nbk n o.length+1)=n*nbk n o.length+n:=Nat.mul_succ _ _;have r:n*(nbk n o.length+1)=o.length:=by omega
 have q:nbk n (o++x).length=nbk n o.length+1:=qhx (by simp;omega) (by simp;omega);refine⟨q,?_,r⟩;unfold yf;rw[q,r,List.drop_left]
def qfI (big:Bool)(h0 msg H:List Int)(lo:Nat)(hl:List Int):Prop:=
 ∀x:List Int,0<x.length→hl.length+x.length≤bB big→stZ big h0 (msg++x) (nbk (bB big) (msg++x).length)=H∧bB big*nbk (bB big) (msg++x).length=lo∧yf (bB big) (msg++x)=hl++x
theorem qcx (big:Bool)(q o:List Int):qfI big q o (stZ big q o (nbk (bB big) o.length)) (bB big*nbk (bB big) o.length) (yf (bB big) o):=by
 intro x D I;obtain⟨G,r⟩:=qgB (YH big) D I;rw[G,r];exact⟨qcR big q (Yg (YH big) _).1,rfl,rfl⟩
theorem qcy (big:Bool)(q o:List Int)(r:(yf (bB big) o).length=bB big):
  qfI big q o (yD big (stZ big q o (nbk (bB big) o.length)) (yf (bB big) o) ((bB big*nbk (bB big) o.length+bB big:Nat):Int) false false) (bB big*nbk (bB big) o.length+bB big) []:=by
 intro x G J;obtain⟨I,D,O⟩:=qgC (YH big) G (by simpa using J) r;have e:bB big*(nbk (bB big) o.length+1)=bB big*nbk (bB big) o.length+bB big:=Nat.mul_succ _ _;rw[I,D];refine⟨?_,e,rfl⟩;rw[qcR big q (by omega),stZ,qal (YH big),qgq r,e]
theorem JM {n:Nat}(q:0<n)(o:List Int):n*nbk n o.length+(yf n o).length=o.length:=by
 rw[zn];have:=Yg q o.length;omega
def zA (big:Bool)(h0 msg:List Int)(node:Bool):List Int:=
 qN (wB big) (yD big (stZ big h0 msg (nbk (bB big) msg.length)) (qam (bB big) msg (nbk (bB big) msg.length)) (msg.length:Int) true node) 8
theorem zP (big:Bool)(q o:List Int)(node:Bool):(zA big q o node).length=mB big:=by
 unfold zA;rw[Jb];cases big<;>rfl
theorem qd1 (big:Bool)(q o:List Int)(node:Bool): ∀z∈zA big q o node,0≤z∧z≤255:=Jc _ _ _
def h0Z (big:Bool)(block:List Int):List Int:=yz (wK big) (cond big IVb IVs) (wB big) block
theorem QX (big:Bool)(o:List Int):Words (nB big) 8 (h0Z big o):=Yw (qif big) _ _ _
def yv (n:Nat)(key:List Int):List Int:=if key.length=0 then [] else QH n key
theorem Y7 {n:Nat}{key:List Int}(h: ∀z∈key,0≤z∧z≤255): ∀z∈yv n key,0≤z∧z≤255:=by
 unfold yv;split
 ·intro z o;cases o
 ·exact yl h
theorem Y6 {n:Nat}{key:List Int}(h:key.length≤n):(yv n key).length≤n:=by
 unfold yv;split
 ·simp
 ·rw[QM h];exact Nat.le_refl _
end Go.Proofs.YthjoojnlnlmljaaGreat
