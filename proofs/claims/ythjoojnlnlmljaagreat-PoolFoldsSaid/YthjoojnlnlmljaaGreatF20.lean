/- What the program takes from a block of parameters, of both kinds. No condition. -/
import Derived.Test.YthjoojnlnlmljaaGreatF18
import Derived.Test.YthjoojnlnlmljaaGreatF19
import Derived.Test.YthjoojnlnlmljaaGreatF17
import Derived.Test.YthjoojnlnlmljaaGreatF04
import Derived.Laws.OwnMore
import Derived.Test.YthjoojnlnlmljaaGreatF16
import Derived.Test.YthjoojnlnlmljaaGreatF15
import Derived.Test.YthjoojnlnlmljaaGreatF11
import Derived.Test.YthjoojnlnlmljaaGreatF14
set_option linter.all false
set_option maxRecDepth 100000
set_option maxHeartbeats 8000000
namespace Go.Proofs.YthjoojnlnlmljaaGreat
open Go.ChangeShapes Go.WideShapes Go.ChangeAt Go.RowKit Go.Joins Go.Shelf Go.Maps
open Go.Lib (hid)
attribute [local go_sem] Oper.semAt_some
def okD (big ext:Bool)(zs:List Int):Prop:=zs.length=mB big∧(big=true→ ∀i,18≤i→i<32→qn zs i=0)∧(ext=true→xoZ big ext zs≠0)∧okC big (qn zs 0) (qn zs 1) (qn zs 3) (xoZ big ext zs) (qn zs (atB big 9))
theorem qb7 (big:Bool)(zs:List Int)(v:Value)(w:World)(h:Holds8 w v zs)(V: ∀z∈zs,0≤z∧z≤255)(J: ∀a n c,v= .slice a n c→n≤c∧(c:Int)≤9223372036854775807)(Z:okD big false zs):
  Calls Tryz.prog 97 #[.int .i64 (kB big),v,.bool false] w fun e w'=>(∃fo dp lf X nd O Y pe,e= .returned (.tuple #[yK (qn zs 0) (qn zs 1) fo dp lf X 0 nd O Y pe,.int .i64 0])∧Y.oneCell'=true∧pe.oneCell'=true)∧Below w.heap.size w w':=by
 obtain⟨a,G,rfl,h⟩:=h;obtain⟨D,hm, -,U,k1,k3,S⟩:=Z;obtain⟨b,off,rfl,hB⟩:=h.resolve_left (fun e=>by rw[e]at D;cases big<;>simp[mB]at D);obtain⟨q,I⟩:=J _ _ _ rfl
 cases big
 ·have o:zs.length=32:=D;rw[o]at q⊢;exact jL zs b off G w hB V q I o U k1.2 (k3 rfl) S.2
 ·have o:zs.length=64:=D;rw[o]at q⊢;exact Jj zs b off G w hB V q I o (hm rfl) U k1.2 (k3 rfl) S.2
end Go.Proofs.YthjoojnlnlmljaaGreat
namespace Go.Proofs.YthjoojnlnlmljaaGreat
open Go.ChangeShapes Go.WideShapes Go.ChangeAt Go.RowKit Go.Joins Go.Shelf Go.Maps
open Go.Lib (hid)
def szE (big ext:Bool)(f:Nat):Nat:=if f=6∧ext=true then 4 else szB big f
theorem QQ (big ext:Bool)(f:Nat)(q:1≤f)(o:f≤9):1≤szE big ext f∧szE big ext f≤8∧atB big f+szE big ext f≤18∧(big=false→atB big f+szE big ext f≤16):=by
 have h:f=1∨f=2∨f=3∨f=4∨f=5∨f=6∨f=7∨f=8∨f=9:=by omega
 rcases h with rfl|rfl|rfl|rfl|rfl|rfl|rfl|rfl|rfl<;>cases big<;>cases ext<;>decide
def QZ (big ext:Bool)(zs:List Int)(f:Nat):Int:=if f=0 then 0 else Qa zs (atB big f) (szE big ext f)
def jJ (big ext:Bool)(zs:List Int):Nat→List Value
 | 0=>[]
 | k+1=>jJ big ext zs k++[.int .u64 (QZ big ext zs k)]
theorem zk (big ext:Bool)(zs:List Int): ∀k,(jJ big ext zs k).length=k
 | 0=>rfl
 | k+1=>by simp[jJ,zk big ext zs k]
theorem Qz (big ext:Bool)(zs:List Int): ∀k j,j<k→(jJ big ext zs k)[j]? =some (.int .u64 (QZ big ext zs j))
 | 0,j,h=>by omega
 | k+1,j,h=>by
  rw[jJ];by_cases e:j=k
  ·subst e;rw[List.getElem?_append_right (by rw[zk];exact Nat.le_refl _),zk];simp
  ·rw[List.getElem?_append_left (by rw[zk];omega)];exact Qz big ext zs k j (by omega)
theorem qO {big ext:Bool}{zs:List Int}(o: ∀z∈zs,0≤z∧z≤255)(G:zs.length=mB big){f:Nat}(D:1≤f)(q:f≤9):0≤QZ big ext zs f∧QZ big ext zs f<2^(8*szE big ext f):=by
 unfold QZ;rw[if_neg (by omega)];have:=QQ big ext f D q
 have I:32≤mB big:=by cases big<;>decide
 exact QB o _ (by omega)
theorem YP (zs:List Int)(a:Nat):Qa zs a 1=qn zs a:=by simp[Qa]
theorem qh5 {W:World}{B:Nat}{v:Value}{D:List Value}(h:W.ownsRow B 44 1 v 10 D): ∃g q o,v= .slice (some ⟨g,0,none⟩) 10 q∧B≤g∧W.heap[g]? =some (.cells o 44 (0,0))∧10≤o.size∧ ∀j,j<10→o[j]? =D[j]? :=by
 rcases h.2 with⟨-,I⟩|⟨g,q,o,rfl,J,G,S,X,U,O⟩
 ·cases I
 ·refine⟨g,q,o,rfl,J,G,by omega,fun j V=>?_⟩;rw[←O,List.getElem?_take,if_pos (by omega),Array.getElem?_toList]
end Go.Proofs.YthjoojnlnlmljaaGreat
namespace Go.Proofs.YthjoojnlnlmljaaGreat
open Go.ChangeShapes Go.WideShapes Go.ChangeAt Go.RowKit Go.Joins Go.Shelf Go.Maps
open Go.Lib (hid)
attribute [local go_sem] Oper.semAt_some
theorem ZD (zs:List Int)(b off o:Nat)(w:World)(hB:Qm w b off zs)(hz: ∀z∈zs,0≤z∧z≤255)(ca:64≤o)(b9:(o:Int)≤9223372036854775807)(hl:zs.length=64)(bz: ∀i,18≤i→i<32→qn zs i=0)(bP:1≤qn zs 0∧qn zs 0≤64)(ae:qn zs 1≤64)(bS:1≤qn zs 3)(bI:qn zs 17≤64):
  Calls Tryz.prog 152 #[.int .i64 1,.slice (some ⟨b,off,none⟩) 64 o,.bool false] w fun e w'=>(∃sa pe,e= .returned (.tuple #[yK (qn zs 0) (qn zs 1) (qn zs 2) (qn zs 3) (Qa zs 4 4) (Qa zs 8 8) 0 (qn zs 16) (qn zs 17) sa pe,.int .i64 0])∧w'.ownsRow w.heap.size 5 1 sa (Qc ((zs.drop 32).take 16) 16) ((((zs.drop 32).take 16).take (Qc ((zs.drop 32).take 16) 16)).map qp)∧w'.ownsRow w.heap.size 5 1 pe (Qc ((zs.drop 48).take 16) 16) ((((zs.drop 48).take 16).take (Qc ((zs.drop 48).take 16) 16)).map qp))∧Below w.heap.size w w':=by
 obtain⟨h1,h2⟩:=id hB;have HC:=hid h2;have HB:=hid hB;clear h2 hB;obtain⟨i0,hi,bg,bu,bv⟩:=info_parts ZL;obtain⟨U,aB⟩:=Ex (QZ true false zs 1);have cr:0≤U∧U<256:=by have:=qO (big:=true) (ext:=false) hz hl (f:=1) (by omega) (by omega);rw[aB]at this;simpa [szE,szB] using this
 have a6:qn zs 0=U:=by rw[←aB];simp[QZ,szE,szB,atB,YP]
 rw[a6]at bP;try rw[a6]
 obtain⟨V,av⟩:=Ex (QZ true false zs 2);have cz:0≤V∧V<256:=by have:=qO (big:=true) (ext:=false) hz hl (f:=2) (by omega) (by omega);rw[av]at this;simpa [szE,szB] using this
 have aN:qn zs 1=V:=by rw[←av];simp[QZ,szE,szB,atB,YP]
 rw[aN]at ae;try rw[aN]
 obtain⟨Y,aE⟩:=Ex (QZ true false zs 3);have cm:0≤Y∧Y<256:=by have:=qO (big:=true) (ext:=false) hz hl (f:=3) (by omega) (by omega);rw[aE]at this;simpa [szE,szB] using this
 have a7:qn zs 2=Y:=by rw[←aE];simp[QZ,szE,szB,atB,YP]
 try rw[a7]
 obtain⟨X,aA⟩:=Ex (QZ true false zs 4);have ck:0≤X∧X<256:=by have:=qO (big:=true) (ext:=false) hz hl (f:=4) (by omega) (by omega);rw[aA]at this;simpa [szE,szB] using this
 have aQ:qn zs 3=X:=by rw[←aA];simp[QZ,szE,szB,atB,YP]
 rw[aQ]at bS;try rw[aQ]
 obtain⟨S,ax⟩:=Ex (QZ true false zs 5);have cj:0≤S∧S<4294967296:=by have:=qO (big:=true) (ext:=false) hz hl (f:=5) (by omega) (by omega);rw[ax]at this;simpa [szE,szB] using this
 have bc:Qa zs 4 4=S:=by rw[←ax];simp[QZ,szE,szB,atB,YP]
 try rw[bc]
 obtain⟨V6,ar⟩:=Ex (QZ true false zs 6);have cq:0≤V6∧V6<18446744073709551616:=by have:=qO (big:=true) (ext:=false) hz hl (f:=6) (by omega) (by omega);rw[ar]at this;simpa [szE,szB] using this
 have bh:Qa zs 8 8=V6:=by rw[←ar];simp[QZ,szE,szB,atB,YP]
 try rw[bh]
 obtain⟨V7,ay⟩:=Ex (QZ true false zs 7);have ct:0≤V7∧V7<4294967296:=by have:=qO (big:=true) (ext:=false) hz hl (f:=7) (by omega) (by omega);rw[ay]at this;simpa [szE,szB] using this
 have bd:Qa zs 12 4=V7:=by rw[←ay];simp[QZ,szE,szB,atB,YP]
 try rw[bd]
 obtain⟨V8,au⟩:=Ex (QZ true false zs 8);have cl:0≤V8∧V8<256:=by have:=qO (big:=true) (ext:=false) hz hl (f:=8) (by omega) (by omega);rw[au]at this;simpa [szE,szB] using this
 have bi:qn zs 16=V8:=by rw[←au];simp[QZ,szE,szB,atB,YP]
 try rw[bi]
 obtain⟨Z,az⟩:=Ex (QZ true false zs 9);have ci:0≤Z∧Z<256:=by have:=qO (big:=true) (ext:=false) hz hl (f:=9) (by omega) (by omega);rw[az]at this;simpa [szE,szB] using this
 have aR:qn zs 17=Z:=by rw[←az];simp[QZ,szE,szB,atB,YP]
 rw[aR]at bI;try rw[aR]
 have hs: ∀w:World,Calls Tryz.prog 167 #[.int .i64 1] w fun e w'=>e= .returned (.int .i64 64)∧w'=w:=yV true
 obtain⟨G,am⟩:=Ex w.heap.size;have aJ:b<G:=by rw[←am];exact h1
 have bw: ∀W,Below G w W→Holds8 W (.slice (some ⟨b,off,none⟩) 64 o) zs:=fun W hW=>⟨some ⟨b,off,none⟩,o,by rw[hl],.inr ⟨b,off,rfl,Nat.lt_of_lt_of_le h1 hW.size,fun i hi=>(hW.cell (p:=⟨b,off+i,none⟩) aJ).trans (HC.out i hi)⟩⟩
 have bq:=hid bw;clear bw;have aw:Below G w (w.alloc (.cells #[.int .i64 0,.int .i64 0,.int .i64 0,.int .i64 0,.int .u32 0,.int .u64 0,.int .u32 0,.int .i64 0,.int .i64 0,.slice none 0 0,.slice none 0 0] 171)):=by rw[←am];exact Br.alloc Nl _
 have aZ:=Wn w (.cells #[.int .i64 0,.int .i64 0,.int .i64 0,.int .i64 0,.int .u32 0,.int .u64 0,.int .u32 0,.int .i64 0,.int .i64 0,.slice none 0 0,.slice none 0 0] 171);rw[am]at aZ;have ba:(w.alloc (.cells #[.int .i64 0,.int .i64 0,.int .i64 0,.int .i64 0,.int .u32 0,.int .u64 0,.int .u32 0,.int .i64 0,.int .i64 0,.slice none 0 0,.slice none 0 0] 171)).heap.size=G+1:=by simp[am]
 go_enter Tryz.func152,Tryz.ntmps152
 go_wp2_with fail
 refine(qbJ true _ _ _ _).mono ?_;rintro e w1 ⟨⟨x,rfl,hx⟩,hw⟩;rw[hw];clear hw;obtain rfl:x=0:=hx.2 rfl;clear hx;generalize w.alloc (.cells #[.int .i64 0,.int .i64 0,.int .i64 0,.int .i64 0,.int .u32 0,.int .u64 0,.int .u32 0,.int .i64 0,.int .i64 0,.slice none 0 0,.slice none 0 0] 171)=w2 at*;have HR:=hid aZ;clear aZ;go_wp2_with fail
 go_loopw [9] (fun i wr=> ∃k:Nat,i= .int .i64 (k:Nat)∧18≤k∧k≤32∧w2=wr) (fun i _=>32 - (intOf i).toNat)
 case atStart=>exact⟨18,rfl,by omega,by omega,rfl⟩
 case round=>
  obtain⟨k,rfl,ae,bm,rfl⟩:=hrel;by_cases al:k<32
  ·have hc:=(aw.cell (p:=⟨b,off+k,none⟩) aJ).trans (HC.out k (by omega));rw[bz k ae al]at hc;have k3:(k:Int)<64:=by omega
   have k4:0≤(k:Int):=by omega
   go_wp2
   exact⟨⟨k+1,rfl,by omega,by omega,by trivial⟩,by simp[intOf];omega⟩
  ·obtain rfl:k=32:=by omega
   go_wp2_with fail
   have aD:(w2.alloc (.cells #[.int .u64 0] 44)).ownsRow (G+1) 44 1 (.slice (some ⟨G+1,0,none⟩) 1 1) 1 (jJ true false zs 1):=by have:=World.ownsRow_lit (base:=G+1) (e:=44) (size:=1) w2 #[.int .u64 0] 1 (by omega) (by decide) rfl;rwa[ba]at this
   have aV:Below (G+1) w2 (w2.alloc (.cells #[.int .u64 0] 44)):=Br.alloc (by omega) _;go_loopw [10,11] (fun v f wr=> ∃(k:Nat),f= .int .i64 (k:Nat)∧1≤k∧k≤10∧wr.ownsRow (G+1) 44 1 v k (jJ true false zs k)∧Below (G+1) w2 wr) (fun _ i _=>10 - (intOf i).toNat)
   case atStart=>exact⟨1,rfl,by omega,by omega,aD,aV⟩
   case round=>
    clear aD aV;obtain⟨f,rfl,ae,bm,ad,hb⟩:=hrel;have bW:=hb.size;by_cases al:f≤9
    ·have bt:=QQ true false f ae al;have a9:QZ true false zs f=Qa zs (atB true f) (szE true false f):=if_neg (by omega);have e1:=hid (show jJ true false zs (f+1)=jJ true false zs f++[.int .u64 (Qa zs (atB true f) (szE true false f))] by rw[jJ,a9]);have k5:(f:Int)≤9:=by omega
     have aO:=hid (je true f ⟨ae,al⟩);obtain⟨an,ai⟩:=Ex (atB true f);obtain⟨bs,aq⟩:=Ex (szB true f);obtain⟨af,aj⟩:=Ex (szE true false f);have bk:=hid aj;have bl:=hid aq;rw[ai,aj]at e1;rw[ai,aq]at aO;rw[ai,aj]at bt;clear a9 ai aq aj;obtain⟨j1,j2,j3,j4⟩:=bt;have j5:an+af≤zs.length:=by omega
     clear j4;have bo:Below G w wr:=aw.trans (hb.mono (by omega));by_cases a3:f=6
     case pos=>
      subst a3;go_wp2_with fail
      refine(aO.out _).mono ?_;rintro r w4 ⟨rfl,hw⟩;rw[hw];clear hw;obtain rfl:af=bs:=by rw[←bk.out,←bl.out];simp[szE]
      go_wp2_with fail
      refine(zX zs _ an af _ (bq.out _ bo) hz (by omega) (by omega) (by omega)).mono ?_;rintro r w5 ⟨rfl,hw⟩;rw[hw];clear hw;go_wp2_with (at_builtin;refine wpList_append_own _ rfl _ _ 105 rfl (G+1) 44 i0 (.int .u64 0) 1 8 Tryz.underlying105 hi bg bu bv rfl (by decide) _ _ _ rfl (ad.alloc _) ⟨wr.heap.size,0,none⟩ 1 1 [.int .u64 (Qa zs an af)] rfl rfl (cell_one_new _ _ _) (by simp[Value.oneCell']) (by unfold maxLen;omega) (by omega) (by simp;omega) ?_;intro v' w6 ac ah _;have ag:Below (G+1) w2 w6:=(hb.alloc (by omega) _).grown ah (by simp;omega) (fun k e=>(ad.lt k e).1))
      rw[←e1.out]at ac;refine⟨⟨_,_,_,_,_,_,_,_,_,_,_,_,_,_,_,_,_,_,_,_,_,_,_,_,_,_,⟨7,rfl,by omega,by omega,ac,ag⟩,rfl⟩,?_⟩;first|(simp[intOf];done)|(simp[intOf];omega)
     case neg=>
      go_wp2_with fail
      refine(aO.out _).mono ?_;rintro r w4 ⟨rfl,hw⟩;rw[hw];clear hw;obtain rfl:af=bs:=by rw[←bk.out,←bl.out];simp[szE,a3]
      have cb: ¬((f:Int)=6):=by omega
      have ch: ¬(f=6):=a3;go_wp2_with fail
      refine(zX zs _ an af _ (bq.out _ bo) hz (by omega) (by omega) (by omega)).mono ?_;rintro r w5 ⟨rfl,hw⟩;rw[hw];clear hw;go_wp2_with (at_builtin;refine wpList_append_own _ rfl _ _ 105 rfl (G+1) 44 i0 (.int .u64 0) 1 8 Tryz.underlying105 hi bg bu bv rfl (by decide) _ _ _ rfl (ad.alloc _) ⟨wr.heap.size,0,none⟩ 1 1 [.int .u64 (Qa zs an af)] rfl rfl (cell_one_new _ _ _) (by simp[Value.oneCell']) (by unfold maxLen;omega) (by omega) (by simp;omega) ?_;intro v' w6 ac ah _;have ag:Below (G+1) w2 w6:=(hb.alloc (by omega) _).grown ah (by simp;omega) (fun k e=>(ad.lt k e).1))
      rw[←e1.out]at ac;refine⟨⟨_,_,_,_,_,_,_,_,_,_,_,_,_,_,_,_,_,_,_,_,_,_,_,_,_,_,⟨f+1,rfl,by omega,by omega,ac,ag⟩,rfl⟩,?_⟩;first|(simp[intOf];done)|(simp[intOf];omega)
    ·obtain rfl:f=10:=by omega
     obtain⟨g,cg,I,rfl,ce,ak,bM,aa⟩:=qh5 ad;have aX:=hid ak;have aM:I[1]? =some (.int .u64 U):=by rw[aa 1 (by omega),Qz _ _ _ _ _ (by omega),aB]
     have aW:I[2]? =some (.int .u64 V):=by rw[aa 2 (by omega),Qz _ _ _ _ _ (by omega),av]
     have aH:I[3]? =some (.int .u64 Y):=by rw[aa 3 (by omega),Qz _ _ _ _ _ (by omega),aE]
     have aY:I[4]? =some (.int .u64 X):=by rw[aa 4 (by omega),Qz _ _ _ _ _ (by omega),aA]
     have aG:I[5]? =some (.int .u64 S):=by rw[aa 5 (by omega),Qz _ _ _ _ _ (by omega),ax]
     have aU:I[6]? =some (.int .u64 V6):=by rw[aa 6 (by omega),Qz _ _ _ _ _ (by omega),ar]
     have aP:I[7]? =some (.int .u64 V7):=by rw[aa 7 (by omega),Qz _ _ _ _ _ (by omega),ay]
     have a4:I[8]? =some (.int .u64 V8):=by rw[aa 8 (by omega),Qz _ _ _ _ _ (by omega),au]
     have aF:I[9]? =some (.int .u64 Z):=by rw[aa 9 (by omega),Qz _ _ _ _ _ (by omega),az]
     have ab:g<wr.heap.size:=(Ai ak).1;have c7:=(qa ak 7).trans aP;have f7:=frozen_of_row wr g 7 _ _ ak;have br:Below G w wr:=aw.trans (hb.mono (by omega));have aC:wr.heap[G]? =some (.cells #[.int .i64 0,.int .i64 0,.int .i64 0,.int .i64 0,.int .u32 0,.int .u64 0,.int .u32 0,.int .i64 0,.int .i64 0,.slice none 0 0,.slice none 0 0] 171 (0,0)):=(hb.block G (by omega)).trans HR.out;clear aa ad HR hb al ae bm ak ba aw aB a6 av aN aE a7 aA aQ ax bc ar bh ay bd au bi az aR;go_upto_region 21 with(fail)
     have J:=heap_setCell_same wr g 7 _ _ (.int .u64 0) aX.out;have bK:=hid ((qa J 1).trans (show(I.setIfInBounds 7 (.int .u64 0))[1]? =some (.int .u64 (U)) by rw[Array.getElem?_setIfInBounds];simpa using aM));have b3:=hid ((qa J 2).trans (show(I.setIfInBounds 7 (.int .u64 0))[2]? =some (.int .u64 (V)) by rw[Array.getElem?_setIfInBounds];simpa using aW));have bH:=hid ((qa J 3).trans (show(I.setIfInBounds 7 (.int .u64 0))[3]? =some (.int .u64 (Y)) by rw[Array.getElem?_setIfInBounds];simpa using aH));have bQ:=hid ((qa J 4).trans (show(I.setIfInBounds 7 (.int .u64 0))[4]? =some (.int .u64 (X)) by rw[Array.getElem?_setIfInBounds];simpa using aY));have bL:=hid ((qa J 5).trans (show(I.setIfInBounds 7 (.int .u64 0))[5]? =some (.int .u64 (S)) by rw[Array.getElem?_setIfInBounds];simpa using aG));have bO:=hid ((qa J 6).trans (show(I.setIfInBounds 7 (.int .u64 0))[6]? =some (.int .u64 (V6)) by rw[Array.getElem?_setIfInBounds];simpa using aU));have b4:=hid ((qa J 7).trans (show(I.setIfInBounds 7 (.int .u64 0))[7]? =some (.int .u64 (0)) by rw[Array.getElem?_setIfInBounds];simp;omega));have bF:=hid ((qa J 8).trans (show(I.setIfInBounds 7 (.int .u64 0))[8]? =some (.int .u64 (V8)) by rw[Array.getElem?_setIfInBounds];simpa using a4));have b8:=hid ((qa J 9).trans (show(I.setIfInBounds 7 (.int .u64 0))[9]? =some (.int .u64 (Z)) by rw[Array.getElem?_setIfInBounds];simpa using aF));have bG:Below G w (wr.setCell ⟨g,7,none⟩ (.int .u64 0)):=br.setCell (by show G≤g;omega) _;have be:(wr.setCell ⟨g,7,none⟩ (.int .u64 0)).heap[G]? =some (.cells #[.int .i64 0,.int .i64 0,.int .i64 0,.int .i64 0,.int .u32 0,.int .u64 0,.int .u32 0,.int .i64 0,.int .i64 0,.slice none 0 0,.slice none 0 0] 171 (0,0)):=(heap_setCell_other wr _ _ _ (by show G≠g;omega)).trans aC;have aK:(wr.setCell ⟨g,7,none⟩ (.int .u64 0)).heap.size=wr.heap.size:=by simp[World.setCell]
     rw[←aK]at ab bW;clear br aX J aK c7 f7 aC;generalize wr.setCell ⟨g,7,none⟩ (.int .u64 0)=W8 at*;have aC:=be;clear be;clear aM aW aH aY aG aU aP a4 aF bM;go_wp2_with fail
     refine(hs _).mono ?_;rintro r w9 ⟨rfl,hw⟩;rw[hw];clear hw;go_upto_region 22 with(fail)
     refine qA (n:=49) (w0:=W8) (B:=W8.heap.size) [.v 72 (.slice (some ⟨g,0,none⟩) 10 cg),.v 73 (.pointer (some ⟨g,1,none⟩)),.v 74 (.int .u64 U),.v 75 (.int .i64 U),.v 76 (.slice (some ⟨g,0,none⟩) 10 cg),.v 77 (.pointer (some ⟨g,2,none⟩)),.v 78 (.int .u64 V),.v 79 (.int .i64 V),.v 80 (.slice (some ⟨g,0,none⟩) 10 cg),.v 81 (.pointer (some ⟨g,3,none⟩)),.v 82 (.int .u64 Y),.v 83 (.int .i64 Y),.v 84 (.slice (some ⟨g,0,none⟩) 10 cg),.v 85 (.pointer (some ⟨g,4,none⟩)),.v 86 (.int .u64 X),.v 87 (.int .i64 X),.v 88 (.slice (some ⟨g,0,none⟩) 10 cg),.v 89 (.pointer (some ⟨g,5,none⟩)),.v 90 (.int .u64 S),.v 91 (.int .u32 S),.v 92 (.slice (some ⟨g,0,none⟩) 10 cg),.v 93 (.pointer (some ⟨g,6,none⟩)),.v 94 (.int .u64 V6),.v 95 (.slice (some ⟨g,0,none⟩) 10 cg),.v 96 (.pointer (some ⟨g,7,none⟩)),.v 97 (.int .u64 0),.v 98 (.int .u32 0),.v 99 (.slice (some ⟨g,0,none⟩) 10 cg),.v 100 (.pointer (some ⟨g,8,none⟩)),.v 101 (.int .u64 V8),.v 102 (.int .i64 V8),.v 103 (.slice (some ⟨g,0,none⟩) 10 cg),.v 104 (.pointer (some ⟨g,9,none⟩)),.v 105 (.int .u64 Z),.v 106 (.int .i64 Z),.v 107 (.slice (some ⟨b,off,none⟩) 64 o),.v 108 (.int .i64 16),.v 109 (.int .i64 32),.v 110 (.int .i64 16),.v 111 (.int .i64 48),.v 112 (.slice (some ⟨b,off+32,none⟩) 16 (o - 32)),.v 113 (.slice (some ⟨b,off,none⟩) 64 o),.v 114 (.int .i64 16),.v 115 (.int .i64 48),.v 116 (.int .i64 16),.v 117 (.int .i64 64),.v 118 (.slice (some ⟨b,off+48,none⟩) 16 (o - 48)),.v 119 (.agg #[.int .i64 U,.int .i64 V,.int .i64 Y,.int .i64 X,.int .u32 S,.int .u64 V6,.int .u32 0,.int .i64 V8,.int .i64 Z,.slice (some ⟨b,off+32,none⟩) 16 (o - 32),.slice (some ⟨b,off+48,none⟩) 16 (o - 48)]),.p 15 (fun u W=> ∃p,u= .pointer (some ⟨p,0,none⟩)∧W8.heap.size≤p∧W.heap[p]? =some (.cells #[.int .i64 0,.int .i64 0,.int .i64 0,.int .i64 0,.int .u32 0,.int .u64 0,.int .u32 0,.int .i64 0,.int .i64 0,.slice none 0 0,.slice none 0 0] 171 (0,0)))] (by exact⟨(fun _ _ _ h hb=>by obtain⟨p,e,h3,h4⟩:=h;exact⟨p,e,h3,qe h4 hb⟩),trivial⟩) Br.drew Nl ?_ ?_
     ·repeat' (with_reducible first|exact qx|refine qt ?_ ?_)
      all_goals try
       intro A x W O hW ao q D K hK;have bT:=O.2 10 (by decide);conv at bT=>rhs;whnf
       have a1:=O.2 1 (by decide);conv at a1=>rhs;whnf
       have bZ:=O.2 14 (by decide);conv at bZ=>rhs;whnf
       simp only[QJ,QS]at D;clear q O;first
       | go_simp
         exact hK _ _ BR rfl
       | have y0:=(hW.cell (p:=⟨g,1,none⟩) ab).trans bK.out
         have y1:g<W.heap.size:=by omega
         have y2:IntKind.i64.wrap U=U:=by rw[IntKind.wrap_i64];omega
         have y3:=(hW.cell (p:=⟨g,2,none⟩) ab).trans b3.out;have y4:IntKind.i64.wrap V=V:=by rw[IntKind.wrap_i64];omega
         have y5:=(hW.cell (p:=⟨g,3,none⟩) ab).trans bH.out;have y6:IntKind.i64.wrap Y=Y:=by rw[IntKind.wrap_i64];omega
         have y7:=(hW.cell (p:=⟨g,4,none⟩) ab).trans bQ.out;have y8:IntKind.i64.wrap X=X:=by rw[IntKind.wrap_i64];omega
         have y9:=(hW.cell (p:=⟨g,5,none⟩) ab).trans bL.out;have cc:IntKind.u32.wrap S=S:=u32_wrap_id _ (by omega) (by omega);have cd:=(hW.cell (p:=⟨g,6,none⟩) ab).trans bO.out;have cf:=(hW.cell (p:=⟨g,7,none⟩) ab).trans b4.out;have cA:=(hW.cell (p:=⟨g,8,none⟩) ab).trans bF.out;have co:IntKind.i64.wrap V8=V8:=by rw[IntKind.wrap_i64];omega
         have cp:=(hW.cell (p:=⟨g,9,none⟩) ab).trans b8.out;have cw:IntKind.i64.wrap Z=Z:=by rw[IntKind.wrap_i64];omega
         have cu: ¬o=32:=by omega
         have cy: ¬o=48:=by omega
         have cx:64≤(o:Int):=by omega
         have cn:48≤(o:Int):=by omega
         go_simp
         exact hK _ _ BR rfl
      ·intro A x W O hW ao q _ K hK;have bU:=gv O q 3 75;have bV:=gv O q 7 79;have bN:=gv O q 11 83;have b5:=gv O q 15 87;have bY:=gv O q 19 91;have bX:=gv O q 22 94;have bJ:=gv O q 26 98;have bD:=gv O q 30 102;have bC:=gv O q 34 106;have bE:=gv O q 40 112;have bA:=gv O q 46 118;clear q O;refine Y8 171 _ rfl #[.int .i64 U,.int .i64 V,.int .i64 Y,.int .i64 X,.int .u32 S,.int .u64 V6,.int .u32 0,.int .i64 V8,.int .i64 Z,.slice (some ⟨b,off+32,none⟩) 16 (o - 32),.slice (some ⟨b,off+48,none⟩) 16 (o - 48)] ?_ (hK _ _ Br rfl);simp only[List.map_toArray,List.map_cons,List.map_nil,Act.eval,bU,bV,bN,b5,bY,bX,bJ,bD,bC,bE,bA];kernel_rfl
      ·intro A x W O hW ao q _ K hK;clear q O;go_simp
       exact hK _ _ (Br.alloc Nl _) ⟨W.heap.size,rfl,ao,Wn W _⟩
     intro x W hW ao bx;obtain⟨bf, -⟩:=bx;change (fun u W=> ∃p,u= .pointer (some ⟨p,0,none⟩)∧W8.heap.size≤p∧W.heap[p]? =some (.cells #[.int .i64 0,.int .i64 0,.int .i64 0,.int .i64 0,.int .u32 0,.int .u64 0,.int .u32 0,.int .i64 0,.int .i64 0,.slice none 0 0,.slice none 0 0] 171 (0,0))) (x 15) W at bf
     obtain⟨p,ep,b7,aL⟩:=bf;refine qo ?_;simp only[Qx,Act.put,Ls,ep];refine wpList_store_row rfl 171 _ _ rfl p #[.int .i64 U,.int .i64 V,.int .i64 Y,.int .i64 X,.int .u32 S,.int .u64 V6,.int .u32 0,.int .i64 V8,.int .i64 Z,.slice (some ⟨b,off+32,none⟩) 16 (o - 32),.slice (some ⟨b,off+48,none⟩) 16 (o - 48)] rfl rfl 171 _ aL (by kernel_rfl) rfl (by simp[Value.oneCell']) ?_;refine qs ?_;have ap:Below W8.heap.size W8 (W.setRow p #[.int .i64 U,.int .i64 V,.int .i64 Y,.int .i64 X,.int .u32 S,.int .u64 V6,.int .u32 0,.int .i64 V8,.int .i64 Z,.slice (some ⟨b,off+32,none⟩) 16 (o - 32),.slice (some ⟨b,off+48,none⟩) 16 (o - 48)]):=below_setRow hW b7 _;have bp:=setRow_heap W p _ #[.int .i64 U,.int .i64 V,.int .i64 Y,.int .i64 X,.int .u32 S,.int .u64 V6,.int .u32 0,.int .i64 V8,.int .i64 Z,.slice (some ⟨b,off+32,none⟩) 16 (o - 32),.slice (some ⟨b,off+48,none⟩) 16 (o - 48)] _ _ aL;generalize W.setRow p #[.int .i64 U,.int .i64 V,.int .i64 Y,.int .i64 X,.int .u32 S,.int .u64 V6,.int .u32 0,.int .i64 V8,.int .i64 Z,.slice (some ⟨b,off+32,none⟩) 16 (o - 32),.slice (some ⟨b,off+48,none⟩) 16 (o - 48)]=W3 at ap bp⊢;clear ep aL hW ao x W;have cv:=ap.size;have ag:Below G w W3:=bG.trans (ap.mono (by omega));have b6:W3.heap[G]? =some (.cells #[.int .i64 0,.int .i64 0,.int .i64 0,.int .i64 0,.int .u32 0,.int .u64 0,.int .u32 0,.int .i64 0,.int .i64 0,.slice none 0 0,.slice none 0 0] 171 (0,0)):=(ap.block G (by omega)).trans aC;have aT:Qm W3 b off zs:=⟨Nat.lt_of_lt_of_le h1 ag.size,fun i hi=>(ag.cell (p:=⟨b,off+i,none⟩) aJ).trans (HC.out i hi)⟩;have aI:=jX true U V Y X S V6 V8 Z ((zs.drop 32).take 16) ((zs.drop 48).take 16) b (off+32) (o - 32) b (off+48) (o - 48) W3 (YK aT (by omega)) (YK aT (by omega)) (by rw[Qr (by omega)];omega) (by rw[Qr (by omega)];omega) (by rw[Qr (by omega)];decide) (by rw[Qr (by omega)];decide) ⟨by simp only[mB,cond];omega,by simp only[mB,cond];omega,by omega,by omega,⟨by omega,fun h=>by cases h⟩,by omega,by simp only[mB,cond];omega⟩;rw[Qr (by omega),Qr (by omega)]at aI;have bj:=hid aI;clear aI aT ap;go_wp2_with ((with_reducible show wpList _ _ _ (Oper.mk _ (Op.load 171 _) _ _ _ _::_) _ _);refine wpList_load_row rfl 171 _ rfl p rfl _ _ _ _ bp Tryz.underlying171 rfl (by kernel_rfl) ?_)
     refine bj.out.mono ?_;rintro r w7 ⟨⟨sa,pe,rfl,os,op⟩,bn⟩;clear bj;have bb:=qe b6 bn;have bR:Below G w w7:=ag.trans (bn.mono (by omega));obtain⟨a5,n5,k5,rfl⟩:=qu os;obtain⟨a8,n8,k8,rfl⟩:=qu op;unfold yK;go_wp2_with ((with_reducible show wpList _ _ _ (Oper.mk _ (Op.store 171 _ _) _ _ _ _::_) _ _);refine wpList_store_row rfl 171 _ _ rfl G #[.int .i64 U,.int .i64 V,.int .i64 Y,.int .i64 X,.int .u32 S,.int .u64 V6,.int .u32 0,.int .i64 V8,.int .i64 Z,.slice a5 n5 k5,.slice a8 n8 k8] rfl rfl 171 _ bb (by kernel_rfl) rfl (by simp[Value.oneCell']) ?_)
     have aS: ∀{v:Value} {n:Nat} {xs:List Value},w7.ownsRow W3.heap.size 5 1 v n xs→(w7.setRow G #[.int .i64 U,.int .i64 V,.int .i64 Y,.int .i64 X,.int .u32 S,.int .u64 V6,.int .u32 0,.int .i64 V8,.int .i64 Z,.slice a5 n5 k5,.slice a8 n8 k8]).ownsRow w.heap.size 5 1 v n xs:=fun h=>ownsRow_le (qi h (fun g g1 _=>setRow_other _ _ _ _ (by omega))) (by omega)
     exact Bp (qC rfl _ _ G _ _ _ _ rfl (setRow_heap _ G _ _ _ _ bb) Tryz.underlying171 rfl (by kernel_rfl)) rfl ⟨⟨_,_,rfl,aS os,aS op⟩,by rw[am];exact below_setRow bR Nl _⟩
theorem Zm (zs:List Int)(b off o:Nat)(w:World)(hB:Qm w b off zs)(hz: ∀z∈zs,0≤z∧z≤255)(b9:32≤o)(b8:(o:Int)≤9223372036854775807)(hl:zs.length=32)(bN:1≤qn zs 0∧qn zs 0≤32)(aj:qn zs 1≤32)(bR:1≤qn zs 3)(bG:qn zs 15≤32):
  Calls Tryz.prog 152 #[.int .i64 2,.slice (some ⟨b,off,none⟩) 32 o,.bool false] w fun e w'=>(∃sa pe,e= .returned (.tuple #[yK (qn zs 0) (qn zs 1) (qn zs 2) (qn zs 3) (Qa zs 4 4) (Qa zs 8 6) 0 (qn zs 14) (qn zs 15) sa pe,.int .i64 0])∧w'.ownsRow w.heap.size 5 1 sa (Qc ((zs.drop 16).take 8) 8) ((((zs.drop 16).take 8).take (Qc ((zs.drop 16).take 8) 8)).map qp)∧w'.ownsRow w.heap.size 5 1 pe (Qc ((zs.drop 24).take 8) 8) ((((zs.drop 24).take 8).take (Qc ((zs.drop 24).take 8) 8)).map qp))∧Below w.heap.size w w':=by
 obtain⟨h1,h2⟩:=id hB;have HC:=hid h2;have HB:=hid hB;clear h2 hB;obtain⟨i0,hi,bf,bt,bu⟩:=info_parts ZL;obtain⟨U,az⟩:=Ex (QZ false false zs 1);have cq:0≤U∧U<256:=by have:=qO (big:=false) (ext:=false) hz hl (f:=1) (by omega) (by omega);rw[az]at this;simpa [szE,szB] using this
 have a4:qn zs 0=U:=by rw[←az];simp[QZ,szE,szB,atB,YP]
 rw[a4]at bN;try rw[a4]
 obtain⟨V,au⟩:=Ex (QZ false false zs 2);have cy:0≤V∧V<256:=by have:=qO (big:=false) (ext:=false) hz hl (f:=2) (by omega) (by omega);rw[au]at this;simpa [szE,szB] using this
 have aL:qn zs 1=V:=by rw[←au];simp[QZ,szE,szB,atB,YP]
 rw[aL]at aj;try rw[aL]
 obtain⟨Y,aC⟩:=Ex (QZ false false zs 3);have cl:0≤Y∧Y<256:=by have:=qO (big:=false) (ext:=false) hz hl (f:=3) (by omega) (by omega);rw[aC]at this;simpa [szE,szB] using this
 have a6:qn zs 2=Y:=by rw[←aC];simp[QZ,szE,szB,atB,YP]
 try rw[a6]
 obtain⟨X,ay⟩:=Ex (QZ false false zs 4);have cj:0≤X∧X<256:=by have:=qO (big:=false) (ext:=false) hz hl (f:=4) (by omega) (by omega);rw[ay]at this;simpa [szE,szB] using this
 have aP:qn zs 3=X:=by rw[←ay];simp[QZ,szE,szB,atB,YP]
 rw[aP]at bR;try rw[aP]
 obtain⟨S,av⟩:=Ex (QZ false false zs 5);have ci:0≤S∧S<4294967296:=by have:=qO (big:=false) (ext:=false) hz hl (f:=5) (by omega) (by omega);rw[av]at this;simpa [szE,szB] using this
 have bb:Qa zs 4 4=S:=by rw[←av];simp[QZ,szE,szB,atB,YP]
 try rw[bb]
 obtain⟨V6,aq⟩:=Ex (QZ false false zs 6);have cp:0≤V6∧V6<281474976710656:=by have:=qO (big:=false) (ext:=false) hz hl (f:=6) (by omega) (by omega);rw[aq]at this;simpa [szE,szB] using this
 have bg:Qa zs 8 6=V6:=by rw[←aq];simp[QZ,szE,szB,atB,YP]
 try rw[bg]
 obtain⟨V7,aw⟩:=Ex (QZ false false zs 7);have cr:0≤V7∧V7<65536:=by have:=qO (big:=false) (ext:=false) hz hl (f:=7) (by omega) (by omega);rw[aw]at this;simpa [szE,szB] using this
 have bc:Qa zs 12 2=V7:=by rw[←aw];simp[QZ,szE,szB,atB,YP]
 try rw[bc]
 obtain⟨V8,ar⟩:=Ex (QZ false false zs 8);have ck:0≤V8∧V8<256:=by have:=qO (big:=false) (ext:=false) hz hl (f:=8) (by omega) (by omega);rw[ar]at this;simpa [szE,szB] using this
 have bi:qn zs 14=V8:=by rw[←ar];simp[QZ,szE,szB,atB,YP]
 try rw[bi]
 obtain⟨Z,ax⟩:=Ex (QZ false false zs 9);have ch:0≤Z∧Z<256:=by have:=qO (big:=false) (ext:=false) hz hl (f:=9) (by omega) (by omega);rw[ax]at this;simpa [szE,szB] using this
 have aQ:qn zs 15=Z:=by rw[←ax];simp[QZ,szE,szB,atB,YP]
 rw[aQ]at bG;try rw[aQ]
 have hs: ∀w:World,Calls Tryz.prog 167 #[.int .i64 2] w fun e w'=>e= .returned (.int .i64 32)∧w'=w:=yV false
 obtain⟨G,al⟩:=Ex w.heap.size;have bh:b<G:=by rw[←al];exact h1
 have bv: ∀W,Below G w W→Holds8 W (.slice (some ⟨b,off,none⟩) 32 o) zs:=fun W hW=>⟨some ⟨b,off,none⟩,o,by rw[hl],.inr ⟨b,off,rfl,Nat.lt_of_lt_of_le h1 hW.size,fun i hi=>(hW.cell (p:=⟨b,off+i,none⟩) bh).trans (HC.out i hi)⟩⟩
 have bp:=hid bv;clear bv;have aE:Below G w (w.alloc (.cells #[.int .i64 0,.int .i64 0,.int .i64 0,.int .i64 0,.int .u32 0,.int .u64 0,.int .u32 0,.int .i64 0,.int .i64 0,.slice none 0 0,.slice none 0 0] 171)):=by rw[←al];exact Br.alloc Nl _
 have aY:=Wn w (.cells #[.int .i64 0,.int .i64 0,.int .i64 0,.int .i64 0,.int .u32 0,.int .u64 0,.int .u32 0,.int .i64 0,.int .i64 0,.slice none 0 0,.slice none 0 0] 171);rw[al]at aY;have a9:(w.alloc (.cells #[.int .i64 0,.int .i64 0,.int .i64 0,.int .i64 0,.int .u32 0,.int .u64 0,.int .u32 0,.int .i64 0,.int .i64 0,.slice none 0 0,.slice none 0 0] 171)).heap.size=G+1:=by simp[al]
 go_enter Tryz.func152,Tryz.ntmps152
 go_wp2_with fail
 refine(qbJ false _ _ _ _).mono ?_;rintro e w1 ⟨⟨x,rfl,hx⟩,hw⟩;rw[hw];clear hw;obtain rfl:x=0:=hx.2 rfl;clear hx;generalize w.alloc (.cells #[.int .i64 0,.int .i64 0,.int .i64 0,.int .i64 0,.int .u32 0,.int .u64 0,.int .u32 0,.int .i64 0,.int .i64 0,.slice none 0 0,.slice none 0 0] 171)=w2 at*;have HR:=hid aY;clear aY;go_wp2_with fail
 go_loopw [9] (fun i wr=>i= .int .i64 18∧w2=wr) (fun _ _=>0)
 case atStart=>exact⟨rfl,rfl⟩
 case round=>
  obtain⟨rfl,rfl⟩:=hrel
  ·skip
   go_wp2_with fail
   have aB:(w2.alloc (.cells #[.int .u64 0] 44)).ownsRow (G+1) 44 1 (.slice (some ⟨G+1,0,none⟩) 1 1) 1 (jJ false false zs 1):=by have:=World.ownsRow_lit (base:=G+1) (e:=44) (size:=1) w2 #[.int .u64 0] 1 (by omega) (by decide) rfl;rwa[a9]at this
   have aU:Below (G+1) w2 (w2.alloc (.cells #[.int .u64 0] 44)):=Br.alloc (by omega) _;go_loopw [10,11] (fun v f wr=> ∃(k:Nat),f= .int .i64 (k:Nat)∧1≤k∧k≤10∧wr.ownsRow (G+1) 44 1 v k (jJ false false zs k)∧Below (G+1) w2 wr) (fun _ i _=>10 - (intOf i).toNat)
   case atStart=>exact⟨1,rfl,by omega,by omega,aB,aU⟩
   case round=>
    clear aB aU;obtain⟨f,rfl,aj,bQ,ad,hb⟩:=hrel;have bW:=hb.size;by_cases aO:f≤9
    ·have bs:=QQ false false f aj aO;have a7:QZ false false zs f=Qa zs (atB false f) (szE false false f):=if_neg (by omega);have e1:=hid (show jJ false false zs (f+1)=jJ false false zs f++[.int .u64 (Qa zs (atB false f) (szE false false f))] by rw[jJ,a7]);have k5:(f:Int)≤9:=by omega
     have aM:=hid (je false f ⟨aj,aO⟩);obtain⟨am,ah⟩:=Ex (atB false f);obtain⟨br,ap⟩:=Ex (szB false f);obtain⟨ae,ai⟩:=Ex (szE false false f);have bk:=hid ai;have bl:=hid ap;rw[ah,ai]at e1;rw[ah,ap]at aM;rw[ah,ai]at bs;clear a7 ah ap ai;obtain⟨j1,j2,j3,j4⟩:=bs;have j5:am+ae≤zs.length:=by omega
     clear j4;have bn:Below G w wr:=aE.trans (hb.mono (by omega));by_cases aZ:f=6
     case pos=>
      subst aZ;go_wp2_with fail
      refine(aM.out _).mono ?_;rintro r w4 ⟨rfl,hw⟩;rw[hw];clear hw;obtain rfl:ae=br:=by rw[←bk.out,←bl.out];simp[szE]
      go_wp2_with fail
      refine(zX zs _ am ae _ (bp.out _ bn) hz (by omega) (by omega) (by omega)).mono ?_;rintro r w5 ⟨rfl,hw⟩;rw[hw];clear hw;go_wp2_with (at_builtin;refine wpList_append_own _ rfl _ _ 105 rfl (G+1) 44 i0 (.int .u64 0) 1 8 Tryz.underlying105 hi bf bt bu rfl (by decide) _ _ _ rfl (ad.alloc _) ⟨wr.heap.size,0,none⟩ 1 1 [.int .u64 (Qa zs am ae)] rfl rfl (cell_one_new _ _ _) (by simp[Value.oneCell']) (by unfold maxLen;omega) (by omega) (by simp;omega) ?_;intro v' w6 ac ag _;have af:Below (G+1) w2 w6:=(hb.alloc (by omega) _).grown ag (by simp;omega) (fun k e=>(ad.lt k e).1))
      rw[←e1.out]at ac;refine⟨⟨7,rfl,by omega,by omega,ac,af⟩,?_⟩;first|(simp[intOf];done)|(simp[intOf];omega)
     case neg=>
      go_wp2_with fail
      refine(aM.out _).mono ?_;rintro r w4 ⟨rfl,hw⟩;rw[hw];clear hw;obtain rfl:ae=br:=by rw[←bk.out,←bl.out];simp[szE,aZ]
      have ca: ¬((f:Int)=6):=by omega
      have cf: ¬(f=6):=aZ;go_wp2_with fail
      refine(zX zs _ am ae _ (bp.out _ bn) hz (by omega) (by omega) (by omega)).mono ?_;rintro r w5 ⟨rfl,hw⟩;rw[hw];clear hw;go_wp2_with (at_builtin;refine wpList_append_own _ rfl _ _ 105 rfl (G+1) 44 i0 (.int .u64 0) 1 8 Tryz.underlying105 hi bf bt bu rfl (by decide) _ _ _ rfl (ad.alloc _) ⟨wr.heap.size,0,none⟩ 1 1 [.int .u64 (Qa zs am ae)] rfl rfl (cell_one_new _ _ _) (by simp[Value.oneCell']) (by unfold maxLen;omega) (by omega) (by simp;omega) ?_;intro v' w6 ac ag _;have af:Below (G+1) w2 w6:=(hb.alloc (by omega) _).grown ag (by simp;omega) (fun k e=>(ad.lt k e).1))
      rw[←e1.out]at ac;refine⟨⟨f+1,rfl,by omega,by omega,ac,af⟩,?_⟩;first|(simp[intOf];done)|(simp[intOf];omega)
    ·obtain rfl:f=10:=by omega
     obtain⟨g,cg,I,rfl,cd,ak,bK,aa⟩:=qh5 ad;have aW:=hid ak;have aK:I[1]? =some (.int .u64 U):=by rw[aa 1 (by omega),Qz _ _ _ _ _ (by omega),az]
     have aV:I[2]? =some (.int .u64 V):=by rw[aa 2 (by omega),Qz _ _ _ _ _ (by omega),au]
     have aG:I[3]? =some (.int .u64 Y):=by rw[aa 3 (by omega),Qz _ _ _ _ _ (by omega),aC]
     have aX:I[4]? =some (.int .u64 X):=by rw[aa 4 (by omega),Qz _ _ _ _ _ (by omega),ay]
     have aF:I[5]? =some (.int .u64 S):=by rw[aa 5 (by omega),Qz _ _ _ _ _ (by omega),av]
     have aT:I[6]? =some (.int .u64 V6):=by rw[aa 6 (by omega),Qz _ _ _ _ _ (by omega),aq]
     have aN:I[7]? =some (.int .u64 V7):=by rw[aa 7 (by omega),Qz _ _ _ _ _ (by omega),aw]
     have a3:I[8]? =some (.int .u64 V8):=by rw[aa 8 (by omega),Qz _ _ _ _ _ (by omega),ar]
     have aD:I[9]? =some (.int .u64 Z):=by rw[aa 9 (by omega),Qz _ _ _ _ _ (by omega),ax]
     have ab:g<wr.heap.size:=(Ai ak).1;have c7:=(qa ak 7).trans aN;have f7:=frozen_of_row wr g 7 _ _ ak;have bq:Below G w wr:=aE.trans (hb.mono (by omega));have aA:wr.heap[G]? =some (.cells #[.int .i64 0,.int .i64 0,.int .i64 0,.int .i64 0,.int .u32 0,.int .u64 0,.int .u32 0,.int .i64 0,.int .i64 0,.slice none 0 0,.slice none 0 0] 171 (0,0)):=(hb.block G (by omega)).trans HR.out;clear aa ad HR hb aO aj bQ ak a9 aE az a4 au aL aC a6 ay aP av bb aq bg aw bc ar bi ax aQ;go_upto_region 21 with(fail)
     have J:=heap_setCell_same wr g 7 _ _ (.int .u64 0) aW.out;have bI:=hid ((qa J 1).trans (show(I.setIfInBounds 7 (.int .u64 0))[1]? =some (.int .u64 (U)) by rw[Array.getElem?_setIfInBounds];simpa using aK));have bZ:=hid ((qa J 2).trans (show(I.setIfInBounds 7 (.int .u64 0))[2]? =some (.int .u64 (V)) by rw[Array.getElem?_setIfInBounds];simpa using aV));have bF:=hid ((qa J 3).trans (show(I.setIfInBounds 7 (.int .u64 0))[3]? =some (.int .u64 (Y)) by rw[Array.getElem?_setIfInBounds];simpa using aG));have bO:=hid ((qa J 4).trans (show(I.setIfInBounds 7 (.int .u64 0))[4]? =some (.int .u64 (X)) by rw[Array.getElem?_setIfInBounds];simpa using aX));have bJ:=hid ((qa J 5).trans (show(I.setIfInBounds 7 (.int .u64 0))[5]? =some (.int .u64 (S)) by rw[Array.getElem?_setIfInBounds];simpa using aF));have bM:=hid ((qa J 6).trans (show(I.setIfInBounds 7 (.int .u64 0))[6]? =some (.int .u64 (V6)) by rw[Array.getElem?_setIfInBounds];simpa using aT));have b3:=hid ((qa J 7).trans (show(I.setIfInBounds 7 (.int .u64 0))[7]? =some (.int .u64 (0)) by rw[Array.getElem?_setIfInBounds];simp;omega));have bD:=hid ((qa J 8).trans (show(I.setIfInBounds 7 (.int .u64 0))[8]? =some (.int .u64 (V8)) by rw[Array.getElem?_setIfInBounds];simpa using a3));have b7:=hid ((qa J 9).trans (show(I.setIfInBounds 7 (.int .u64 0))[9]? =some (.int .u64 (Z)) by rw[Array.getElem?_setIfInBounds];simpa using aD));have bE:Below G w (wr.setCell ⟨g,7,none⟩ (.int .u64 0)):=bq.setCell (by show G≤g;omega) _;have bd:(wr.setCell ⟨g,7,none⟩ (.int .u64 0)).heap[G]? =some (.cells #[.int .i64 0,.int .i64 0,.int .i64 0,.int .i64 0,.int .u32 0,.int .u64 0,.int .u32 0,.int .i64 0,.int .i64 0,.slice none 0 0,.slice none 0 0] 171 (0,0)):=(heap_setCell_other wr _ _ _ (by show G≠g;omega)).trans aA;have aI:(wr.setCell ⟨g,7,none⟩ (.int .u64 0)).heap.size=wr.heap.size:=by simp[World.setCell]
     rw[←aI]at ab bW;clear bq aW J aI c7 f7 aA;generalize wr.setCell ⟨g,7,none⟩ (.int .u64 0)=W8 at*;have aA:=bd;clear bd;clear aK aV aG aX aF aT aN a3 aD bK;go_wp2_with fail
     refine(hs _).mono ?_;rintro r w9 ⟨rfl,hw⟩;rw[hw];clear hw;go_upto_region 22 with(fail)
     refine qA (n:=49) (w0:=W8) (B:=W8.heap.size) [.v 72 (.slice (some ⟨g,0,none⟩) 10 cg),.v 73 (.pointer (some ⟨g,1,none⟩)),.v 74 (.int .u64 U),.v 75 (.int .i64 U),.v 76 (.slice (some ⟨g,0,none⟩) 10 cg),.v 77 (.pointer (some ⟨g,2,none⟩)),.v 78 (.int .u64 V),.v 79 (.int .i64 V),.v 80 (.slice (some ⟨g,0,none⟩) 10 cg),.v 81 (.pointer (some ⟨g,3,none⟩)),.v 82 (.int .u64 Y),.v 83 (.int .i64 Y),.v 84 (.slice (some ⟨g,0,none⟩) 10 cg),.v 85 (.pointer (some ⟨g,4,none⟩)),.v 86 (.int .u64 X),.v 87 (.int .i64 X),.v 88 (.slice (some ⟨g,0,none⟩) 10 cg),.v 89 (.pointer (some ⟨g,5,none⟩)),.v 90 (.int .u64 S),.v 91 (.int .u32 S),.v 92 (.slice (some ⟨g,0,none⟩) 10 cg),.v 93 (.pointer (some ⟨g,6,none⟩)),.v 94 (.int .u64 V6),.v 95 (.slice (some ⟨g,0,none⟩) 10 cg),.v 96 (.pointer (some ⟨g,7,none⟩)),.v 97 (.int .u64 0),.v 98 (.int .u32 0),.v 99 (.slice (some ⟨g,0,none⟩) 10 cg),.v 100 (.pointer (some ⟨g,8,none⟩)),.v 101 (.int .u64 V8),.v 102 (.int .i64 V8),.v 103 (.slice (some ⟨g,0,none⟩) 10 cg),.v 104 (.pointer (some ⟨g,9,none⟩)),.v 105 (.int .u64 Z),.v 106 (.int .i64 Z),.v 107 (.slice (some ⟨b,off,none⟩) 32 o),.v 108 (.int .i64 8),.v 109 (.int .i64 16),.v 110 (.int .i64 8),.v 111 (.int .i64 24),.v 112 (.slice (some ⟨b,off+16,none⟩) 8 (o - 16)),.v 113 (.slice (some ⟨b,off,none⟩) 32 o),.v 114 (.int .i64 8),.v 115 (.int .i64 24),.v 116 (.int .i64 8),.v 117 (.int .i64 32),.v 118 (.slice (some ⟨b,off+24,none⟩) 8 (o - 24)),.v 119 (.agg #[.int .i64 U,.int .i64 V,.int .i64 Y,.int .i64 X,.int .u32 S,.int .u64 V6,.int .u32 0,.int .i64 V8,.int .i64 Z,.slice (some ⟨b,off+16,none⟩) 8 (o - 16),.slice (some ⟨b,off+24,none⟩) 8 (o - 24)]),.p 15 (fun u W=> ∃p,u= .pointer (some ⟨p,0,none⟩)∧W8.heap.size≤p∧W.heap[p]? =some (.cells #[.int .i64 0,.int .i64 0,.int .i64 0,.int .i64 0,.int .u32 0,.int .u64 0,.int .u32 0,.int .i64 0,.int .i64 0,.slice none 0 0,.slice none 0 0] 171 (0,0)))] (by exact⟨(fun _ _ _ h hb=>by obtain⟨p,e,h3,h4⟩:=h;exact⟨p,e,h3,qe h4 hb⟩),trivial⟩) Br.drew Nl ?_ ?_
     ·repeat' (with_reducible first|exact qx|refine qt ?_ ?_)
      all_goals try
       intro A x W O hW an q D K hK;have bS:=O.2 10 (by decide);conv at bS=>rhs;whnf
       have a1:=O.2 1 (by decide);conv at a1=>rhs;whnf
       have bY:=O.2 14 (by decide);conv at bY=>rhs;whnf
       simp only[QJ,QS]at D;clear q O;first
       | go_simp
         exact hK _ _ BR rfl
       | have y0:=(hW.cell (p:=⟨g,1,none⟩) ab).trans bI.out
         have y1:g<W.heap.size:=by omega
         have y2:IntKind.i64.wrap U=U:=by rw[IntKind.wrap_i64];omega
         have y3:=(hW.cell (p:=⟨g,2,none⟩) ab).trans bZ.out;have y4:IntKind.i64.wrap V=V:=by rw[IntKind.wrap_i64];omega
         have y5:=(hW.cell (p:=⟨g,3,none⟩) ab).trans bF.out;have y6:IntKind.i64.wrap Y=Y:=by rw[IntKind.wrap_i64];omega
         have y7:=(hW.cell (p:=⟨g,4,none⟩) ab).trans bO.out;have y8:IntKind.i64.wrap X=X:=by rw[IntKind.wrap_i64];omega
         have y9:=(hW.cell (p:=⟨g,5,none⟩) ab).trans bJ.out;have cb:IntKind.u32.wrap S=S:=u32_wrap_id _ (by omega) (by omega);have cc:=(hW.cell (p:=⟨g,6,none⟩) ab).trans bM.out;have ce:=(hW.cell (p:=⟨g,7,none⟩) ab).trans b3.out;have cz:=(hW.cell (p:=⟨g,8,none⟩) ab).trans bD.out;have cn:IntKind.i64.wrap V8=V8:=by rw[IntKind.wrap_i64];omega
         have co:=(hW.cell (p:=⟨g,9,none⟩) ab).trans b7.out;have cv:IntKind.i64.wrap Z=Z:=by rw[IntKind.wrap_i64];omega
         have ct: ¬o=16:=by omega
         have cx: ¬o=24:=by omega
         have cw:32≤(o:Int):=by omega
         have cm:24≤(o:Int):=by omega
         go_simp
         exact hK _ _ BR rfl
      ·intro A x W O hW an q _ K hK;have bT:=gv O q 3 75;have bU:=gv O q 7 79;have bL:=gv O q 11 83;have b4:=gv O q 15 87;have bX:=gv O q 19 91;have bV:=gv O q 22 94;have bH:=gv O q 26 98;have bA:=gv O q 30 102;have bz:=gv O q 34 106;have bC:=gv O q 40 112;have bx:=gv O q 46 118;clear q O;refine Y8 171 _ rfl #[.int .i64 U,.int .i64 V,.int .i64 Y,.int .i64 X,.int .u32 S,.int .u64 V6,.int .u32 0,.int .i64 V8,.int .i64 Z,.slice (some ⟨b,off+16,none⟩) 8 (o - 16),.slice (some ⟨b,off+24,none⟩) 8 (o - 24)] ?_ (hK _ _ Br rfl);simp only[List.map_toArray,List.map_cons,List.map_nil,Act.eval,bT,bU,bL,b4,bX,bV,bH,bA,bz,bC,bx];kernel_rfl
      ·intro A x W O hW an q _ K hK;clear q O;go_simp
       exact hK _ _ (Br.alloc Nl _) ⟨W.heap.size,rfl,an,Wn W _⟩
     intro x W hW an bw;obtain⟨be, -⟩:=bw;change (fun u W=> ∃p,u= .pointer (some ⟨p,0,none⟩)∧W8.heap.size≤p∧W.heap[p]? =some (.cells #[.int .i64 0,.int .i64 0,.int .i64 0,.int .i64 0,.int .u32 0,.int .u64 0,.int .u32 0,.int .i64 0,.int .i64 0,.slice none 0 0,.slice none 0 0] 171 (0,0))) (x 15) W at be
     obtain⟨p,ep,b6,aJ⟩:=be;refine qo ?_;simp only[Qx,Act.put,Ls,ep];refine wpList_store_row rfl 171 _ _ rfl p #[.int .i64 U,.int .i64 V,.int .i64 Y,.int .i64 X,.int .u32 S,.int .u64 V6,.int .u32 0,.int .i64 V8,.int .i64 Z,.slice (some ⟨b,off+16,none⟩) 8 (o - 16),.slice (some ⟨b,off+24,none⟩) 8 (o - 24)] rfl rfl 171 _ aJ (by kernel_rfl) rfl (by simp[Value.oneCell']) ?_;refine qs ?_;have ao:Below W8.heap.size W8 (W.setRow p #[.int .i64 U,.int .i64 V,.int .i64 Y,.int .i64 X,.int .u32 S,.int .u64 V6,.int .u32 0,.int .i64 V8,.int .i64 Z,.slice (some ⟨b,off+16,none⟩) 8 (o - 16),.slice (some ⟨b,off+24,none⟩) 8 (o - 24)]):=below_setRow hW b6 _;have bo:=setRow_heap W p _ #[.int .i64 U,.int .i64 V,.int .i64 Y,.int .i64 X,.int .u32 S,.int .u64 V6,.int .u32 0,.int .i64 V8,.int .i64 Z,.slice (some ⟨b,off+16,none⟩) 8 (o - 16),.slice (some ⟨b,off+24,none⟩) 8 (o - 24)] _ _ aJ;generalize W.setRow p #[.int .i64 U,.int .i64 V,.int .i64 Y,.int .i64 X,.int .u32 S,.int .u64 V6,.int .u32 0,.int .i64 V8,.int .i64 Z,.slice (some ⟨b,off+16,none⟩) 8 (o - 16),.slice (some ⟨b,off+24,none⟩) 8 (o - 24)]=W3 at ao bo⊢;clear ep aJ hW an x W;have cu:=ao.size;have af:Below G w W3:=bE.trans (ao.mono (by omega));have b5:W3.heap[G]? =some (.cells #[.int .i64 0,.int .i64 0,.int .i64 0,.int .i64 0,.int .u32 0,.int .u64 0,.int .u32 0,.int .i64 0,.int .i64 0,.slice none 0 0,.slice none 0 0] 171 (0,0)):=(ao.block G (by omega)).trans aA;have aS:Qm W3 b off zs:=⟨Nat.lt_of_lt_of_le h1 af.size,fun i hi=>(af.cell (p:=⟨b,off+i,none⟩) bh).trans (HC.out i hi)⟩;have aH:=jX false U V Y X S V6 V8 Z ((zs.drop 16).take 8) ((zs.drop 24).take 8) b (off+16) (o - 16) b (off+24) (o - 24) W3 (YK aS (by omega)) (YK aS (by omega)) (by rw[Qr (by omega)];omega) (by rw[Qr (by omega)];omega) (by rw[Qr (by omega)];decide) (by rw[Qr (by omega)];decide) ⟨by simp only[mB,cond];omega,by simp only[mB,cond];omega,by omega,by omega,⟨by omega,fun h=>by omega⟩,by omega,by simp only[mB,cond];omega⟩;rw[Qr (by omega),Qr (by omega)]at aH;have bj:=hid aH;clear aH aS ao;go_wp2_with ((with_reducible show wpList _ _ _ (Oper.mk _ (Op.load 171 _) _ _ _ _::_) _ _);refine wpList_load_row rfl 171 _ rfl p rfl _ _ _ _ bo Tryz.underlying171 rfl (by kernel_rfl) ?_)
     refine bj.out.mono ?_;rintro r w7 ⟨⟨sa,pe,rfl,os,op⟩,bm⟩;clear bj;have ba:=qe b5 bm;have bP:Below G w w7:=af.trans (bm.mono (by omega));obtain⟨a5,n5,k5,rfl⟩:=qu os;obtain⟨a8,n8,k8,rfl⟩:=qu op;unfold yK;go_wp2_with ((with_reducible show wpList _ _ _ (Oper.mk _ (Op.store 171 _ _) _ _ _ _::_) _ _);refine wpList_store_row rfl 171 _ _ rfl G #[.int .i64 U,.int .i64 V,.int .i64 Y,.int .i64 X,.int .u32 S,.int .u64 V6,.int .u32 0,.int .i64 V8,.int .i64 Z,.slice a5 n5 k5,.slice a8 n8 k8] rfl rfl 171 _ ba (by kernel_rfl) rfl (by simp[Value.oneCell']) ?_)
     have aR: ∀{v:Value} {n:Nat} {xs:List Value},w7.ownsRow W3.heap.size 5 1 v n xs→(w7.setRow G #[.int .i64 U,.int .i64 V,.int .i64 Y,.int .i64 X,.int .u32 S,.int .u64 V6,.int .u32 0,.int .i64 V8,.int .i64 Z,.slice a5 n5 k5,.slice a8 n8 k8]).ownsRow w.heap.size 5 1 v n xs:=fun h=>ownsRow_le (qi h (fun g g1 _=>setRow_other _ _ _ _ (by omega))) (by omega)
     exact Bp (qC rfl _ _ G _ _ _ _ rfl (setRow_heap _ G _ _ _ _ ba) Tryz.underlying171 rfl (by kernel_rfl)) rfl ⟨⟨_,_,rfl,aR os,aR op⟩,by rw[al];exact below_setRow bP Nl _⟩
end Go.Proofs.YthjoojnlnlmljaaGreat
namespace Go.Proofs.YthjoojnlnlmljaaGreat
open Go.ChangeShapes Go.WideShapes Go.ChangeAt Go.RowKit Go.Joins Go.Shelf Go.Maps
open Go.Lib (hid)
attribute [local go_sem] Oper.semAt_some YA
theorem qcn (x n:Nat)(hn:n≤8)(hx:(x:Int)≤18446744073709551615)(w:World):
  Calls Tryz.prog 192 #[.int .u64 x,.int .i64 (n:Nat)] w fun e w'=> ∃v,e= .returned v∧w'.ownsRow w.heap.size 5 1 v n ((qZ x n).map qp)∧Below w.heap.size w w':=by
 obtain⟨i0,hi,V,O,S⟩:=info_parts Qy;go_enter Tryz.func192,Tryz.ntmps192
 go_wp2_with fail
 go_loopw [0,5,6] (fun t o i wr=> ∃(k:Nat) (v:Value),t= .int .u64 (jm x k:Nat)∧o=v∧i= .int .i64 k∧k≤n∧wr.ownsRow w.heap.size 5 1 v k ((qZ x k).map qp)∧Below w.heap.size w wr) (fun _ _ i _=>n - (intOf i).toNat)
 case atStart=>exact⟨0,_,by simp[jm],rfl,rfl,by omega,Wo _ _ _ _,Below.refl _ _⟩
 case round=>
  obtain⟨k,v,rfl,rfl,rfl,hk,q,I⟩:=hrel;have U:=I.size;by_cases aa:k<n
  ·have q1:=qgL x k;have q2:=qgM x k;have q4:IntKind.u64.wrap ((jm x (k+1):Nat):Int)=((jm x (k+1):Nat):Int):=u64_wrap_id _ (by omega) (by have:=qfi x (k+1);omega);have q3:(jm x k:Int)≤18446744073709551615:=by have:=qfi x k;omega
   have X:(qZ x (k+1)).map qp=(qZ x k).map qp++[.int .u8 (byt x k)]:=by rw[zu,List.map_append];rfl
   have Z:=hid X;clear X;go_wp2_with (at_builtin;refine wpList_append_own _ rfl _ _ 24 rfl w.heap.size 5 i0 (.int .u8 0) 1 1 Tryz.underlying24 hi V O S rfl (by decide) _ _ _ rfl (q.alloc _) ⟨wr.heap.size,0,none⟩ 1 1 [.int .u8 (byt x k)] rfl rfl (cell_one_new _ _ _) (by simp[Value.oneCell']) (by unfold maxLen;omega) (by omega) (by simp;omega) ?_;intro v' Y D G _;have J:Below w.heap.size w Y:=(I.alloc U _).grown G (by simp;omega) (fun k e=>(q.lt k e).1))
   rw[←Z.out]at D;exact⟨⟨k+1,v',rfl,rfl,rfl,by omega,D,J⟩,by simp[intOf];omega⟩
  ·obtain rfl:k=n:=by omega
   go_wp2
   go_ret
   exact⟨_,rfl,q,I⟩
def wB (big:Bool):Nat:=cond big 8 4
theorem qaM (big:Bool)(w:World):
  Calls Tryz.prog 154 #[.int .i64 (kB big)] w fun e w'=>e= .returned (.int .i64 (mB big:Nat))∧w'=w:=by
 cases big<;>
 ·simp only[kB,mB,cond];go_enter Tryz.func154,Tryz.ntmps154
  go_wp2
  go_ret
  exact⟨rfl,rfl⟩
theorem J0 (big:Bool)(h:List Int)(hh:Words 64 16 h)(w:World):
  Calls Tryz.prog 178 #[.int .i64 (kB big),.agg (qg .u64 h)] w fun e w'=> ∃v,e= .returned v∧w'.ownsRow w.heap.size 5 1 v (wB big*8) ((qJ (wB big) h 8).map qp)∧Below w.heap.size w w':=by
 obtain⟨i0,hi,ao,ah,am⟩:=info_parts Qy;obtain⟨G,Z⟩:=Ex w.heap.size;have ai:Below G w (w.alloc (.cells (qg .u64 h) 252)):=by rw[←Z];exact Br.alloc Nl _
 have ae:wB big≤8:=by cases big<;>decide
 have aB:0<wB big:=by cases big<;>decide
 have av:(((mB big:Nat):Int).tdiv 8)=(wB big:Nat):=by cases big<;>rfl
 go_enter Tryz.func178,Tryz.ntmps178
 go_wp2_with fail
 go_loopw [5,6] (fun o i wr=> ∃(k:Nat) (v:Value),o=v∧i= .int .i64 k∧k≤8∧wr.ownsRow (G+1) 5 1 v (wB big*k) ((qJ (wB big) h k).map qp)∧Below (G+1) (w.alloc (.cells (qg .u64 h) 252)) wr) (fun _ i _=>8 - (intOf i).toNat)
 case atStart=>exact⟨0,_,rfl,rfl,by omega,Wo _ _ _ _,Below.refl _ _⟩
 case round=>
  obtain⟨k,v,rfl,rfl,hk,Y,V⟩:=hrel;have an:G+1≤wr.heap.size:=by have:=V.size;simp at this;omega
  by_cases ax:k<8
  ·have ad:wr.cell? ⟨G,k,none⟩=some (.int .u64 (wd h k)):=by
    rw[V.cell (p:=⟨G,k,none⟩) (by show G<G+1;omega),←Z,qa (Wn w _) k];exact qz hh (by omega)
   have ab:G<wr.heap.size:=by omega
   have aj:=yg hh (show k<16 by omega);obtain⟨X,hX,ag⟩: ∃X:Nat,wd h k=(X:Int)∧(wd h k).toNat=X:=⟨(wd h k).toNat,by omega,rfl⟩;rw[hX]at ad aj;have al:(X:Int)≤18446744073709551615:=by omega
   have aw:wB big*k≤64:=by have:=Nat.mul_le_mul ae (show k≤8 by omega);omega
   have ar:IntKind.i64.wrap (((mB big:Nat):Int).tdiv 8)=(wB big:Nat):=by cases big<;>rfl
   have au:IntKind.i64.wrap ((wB big:Nat):Int)=(wB big:Nat):=by cases big<;>rfl
   have k1:(k:Int)<16:=by omega
   have k2:0≤(k:Int):=by omega
   have ak:Below wr.heap.size wr wr.drew:=Br.drew;go_wp2_with fail
   rw[decide_eq_true (show(k:Int)<8 by omega)];refine qA (n:=8) (w0:=wr) (B:=wr.heap.size) [.v 11 u5,.v 12 (.int .i64 (k:Nat)),.v 13 (.pointer (some ⟨G,k,none⟩)),.v 14 (.int .u64 (X:Nat)),.v 15 (.int .i64 (kB big)),.v 16 (.int .i64 (mB big:Nat)),.v 17 (.int .i64 (wB big:Nat)),.p 18 (fun u W=>W.ownsRow wr.heap.size 5 1 u (wB big) ((qZ X (wB big)).map qp))] (by exact⟨(fun _ _ _ h V=>qi h (fun g _ g2=>V.block g g2)),trivial⟩) ak Nl ?_ ?_
   ·repeat' (with_reducible first|exact qx|refine qt ?_ ?_)
    all_goals try
     intro A x W I U J q D K S;have a5:=I.2 5 (by decide);conv at a5=>rhs;whnf
     have a6:=I.2 6 (by decide);conv at a6=>rhs;whnf
     have a3:=I.2 3 (by decide);conv at a3=>rhs;whnf
     have a0:=I.2 0 (by decide);conv at a0=>rhs;whnf
     simp only[QJ,QS]at D;clear q I;first
     | go_simp
       exact S _ _ BR rfl
     | have y0:=(U.cell (p:=⟨G,k,none⟩) ab).trans ad
       have y1:G<W.heap.size:=Nat.lt_of_lt_of_le ab J;go_simp
       exact S _ _ BR rfl
    ·intro A x W I U J q _ K S;have az:=gv I q 4 15;clear q I;go_simp
     refine(qaM big W).mono ?_;rintro r w2 ⟨rfl,rfl⟩
     exact S _ _ BR rfl
    ·intro A x W I U J q _ K S;have ay:=gv I q 3 14;have aA:=gv I q 6 17;clear q I;go_simp
     refine(qcn X (wB big) ae al W).mono ?_;rintro r w2 ⟨u,rfl,aa,ap⟩
     exact S _ _ ap (ownsRow_le aa J)
   intro x W U J af;obtain⟨ac, -⟩:=af;change (fun u W=>W.ownsRow wr.heap.size 5 1 u (wB big) ((qZ X (wB big)).map qp)) (x 18) W at ac
   refine qo ?_;simp only[Qx,Act.put,Ls];refine Qh rfl _ _ _ (by rfl) (w.alloc (.cells (qg .u64 h) 252)) (G+1) (by simp;omega) (V.trans (U.mono an)) 5 i0 (.int .u8 0) 1 Tryz.underlying24 hi ao ah am rfl _ (wB big*k) ((qJ (wB big) h k).map qp) (by rfl) (qi Y (fun g _ g2=>U.block g g2)) (x 18) (wB big) ((qZ X (wB big)).map qp) (by rfl) (qei ac (by simp[qp,Value.oneCell'])) (by unfold maxLen;omega) (by omega) ?_;intro v' w' O aq;refine qo ?_;rw[←List.map_append,←ag]at O;simp only[Act.put,Ls];go_wp2_with fail
   refine qs ?_;go_wp2_with fail
   exact⟨⟨k+1,v',rfl,rfl,by omega,O,aq⟩,by simp[intOf];omega⟩
  ·obtain rfl:k=8:=by omega
   go_wp2
   go_ret
   refine⟨_,rfl,ownsRow_le Y (by omega),?_⟩;rw[Z];exact ai.trans (V.mono (by omega))
def bB (big:Bool):Nat:=cond big 128 64
def nB (big:Bool):Nat:=cond big 64 32
def wK (big:Bool):IntKind:=cond big .u64 .u32
theorem Ys (big:Bool):0<bB big:=by cases big<;>decide
theorem qhA (big:Bool): ∀z,(wK big).wrap z=z%2^nB big:=by
 cases big
 ·intro z;exact IntKind.wrap_u32 z
 ·intro z;exact IntKind.wrap_u64 z
def yk (big:Bool)(h bs:List Int)(lo:Int)(last node:Bool):List Int:=
 cond big (zr mixBig IVb 12 h (QM 8 16 bs) lo 0 last node) (zr mixSmall IVs 10 h (QM 4 16 bs) (lo%4294967296) (lo/4294967296) last node)
theorem QH (big:Bool){h:List Int}(q:Words (nB big) 8 h)(G:List Int)(D:Int)(o node:Bool):Words (nB big) 8 (yk big h G D o node):=by
 cases big
 ·exact QE (k:= .u32) (N:=32) (fun z=>IntKind.wrap_u32 z) q 8
 ·exact QE (k:= .u64) (N:=64) (fun z=>IntKind.wrap_u64 z) q 8
def Qv (n:Nat)(zs:List Int):List Int:=zs++List.replicate (n - zs.length) 0
theorem QC {n:Nat}{zs:List Int}(h:zs.length≤n):(Qv n zs).length=n:=by simp[Qv];omega
theorem qf2 {n:Nat}{zs:List Int}(h:zs.length=n):Qv n zs=zs:=by simp[Qv,h]
theorem Q8 {n:Nat}{zs:List Int}(h: ∀z∈zs,0≤z∧z≤255): ∀z∈Qv n zs,0≤z∧z≤255:=by
 intro z o;rcases List.mem_append.1 o with o|o
 ·exact h z o
 ·rw[List.eq_of_mem_replicate o];omega
def JN (n:Nat)(msg:List Int)(k:Nat):List Int:=Qv n ((msg.drop (n*k)).take n)
theorem qhm {n:Nat}{o x:List Int}{k:Nat}(h:n*(k+1)≤o.length):JN n (o++x) k=JN n o k:=by
 have e:n*(k+1)=n*k+n:=Nat.mul_succ n k;unfold JN;rw[List.drop_append_of_le_length (by omega),List.take_append_of_le_length (by simp;omega)]
def stZ (big:Bool)(h0 msg:List Int):Nat→List Int
 | 0=>h0
 | k+1=>yk big (stZ big h0 msg k) (JN (bB big) msg k) ((bB big*(k+1):Nat):Int) false false
theorem yD (big:Bool){D:List Int}(q:Words (nB big) 8 D)(o:List Int): ∀k,Words (nB big) 8 (stZ big D o k)
 | 0=>q
 | k+1=>QH big (yD big q o k) _ _ _ _
theorem qcf (big:Bool)(q:List Int){o x:List Int}: ∀{k:Nat},bB big*k≤o.length→stZ big q (o++x) k=stZ big q o k
 | 0,_=>rfl
 | k+1,h=>by
  have e:bB big*(k+1)=bB big*k+bB big:=Nat.mul_succ _ k;rw[stZ,stZ,qcf big q (k:=k) (by omega),qhm h]
def nbk (n len:Nat):Nat:=(len - 1)/n
theorem yP {n:Nat}(q:0<n)(o:Nat):n*nbk n o≤o∧o≤n*nbk n o+n∧(0<o→n*nbk n o<o):=by
 have G:=Nat.div_add_mod (o - 1) n;have D:=Nat.mod_lt (o - 1) q;unfold nbk;omega
theorem qgY {n o q:Nat}(J:n*q<o)(G:o≤n*q+n):nbk n o=q:=by
 unfold nbk;have D:q*n=n*q:=Nat.mul_comm _ _;have I:(q+1)*n=n*q+n:=by rw[Nat.succ_mul,D]
 exact Nat.div_eq_of_lt_le (by omega) (by omega)
theorem qdx (n:Nat):nbk n 0=0:=by simp[nbk]
def Q1 (n:Nat)(msg:List Int):List Int:=msg.drop (n*nbk n msg.length)
theorem YS (n:Nat)(o:List Int):(Q1 n o).length=o.length - n*nbk n o.length:=by simp[Q1]
theorem ZM {n:Nat}(q:0<n)(o:List Int):(Q1 n o).length≤n:=by
 rw[YS];have:=yP q o.length;omega
theorem YT {n:Nat}{o:List Int}(h: ∀z∈o,0≤z∧z≤255): ∀z∈Q1 n o,0≤z∧z≤255:=fun z q=>h z (List.mem_of_mem_drop q)
theorem JM {n:Nat}(q:0<n)(o:List Int):JN n o (nbk n o.length)=Qv n (Q1 n o):=by
 unfold JN;show Qv n ((Q1 n o).take n)=_
 rw[List.take_of_length_le (ZM q o)]
theorem qgc {n:Nat}(D:0<n){o x:List Int}(J:0<x.length)(I:(Q1 n o).length+x.length≤n):
  nbk n (o++x).length=nbk n o.length∧Q1 n (o++x)=Q1 n o++x:=by
 rw[YS]at I;have G:=yP D o.length;have q:nbk n (o++x).length=nbk n o.length:=qgY (by simp;omega) (by simp;omega);refine⟨q,?_⟩;unfold Q1;rw[q,List.drop_append_of_le_length G.1]
theorem qgd {n:Nat}(G:0<n){o x:List Int}(S:0<x.length)(J:x.length≤n)(I:(Q1 n o).length=n):
  nbk n (o++x).length=nbk n o.length+1∧Q1 n (o++x)=x∧n*(nbk n o.length+1)=o.length:=by
 rw[YS]at I;have U:=yP G o.length;have O:n*(nbk n o.length+1)=n*nbk n o.length+n:=Nat.mul_succ _ _;have D:n*(nbk n o.length+1)=o.length:=by omega
 have q:nbk n (o++x).length=nbk n o.length+1:=qgY (by simp;omega) (by simp;omega);refine⟨q,?_,D⟩;unfold Q1;rw[q,D,List.drop_left]
def qfe (big:Bool)(h0 msg H:List Int)(lo:Nat)(hl:List Int):Prop:=
 ∀x:List Int,0<x.length→hl.length+x.length≤bB big→stZ big h0 (msg++x) (nbk (bB big) (msg++x).length)=H∧bB big*nbk (bB big) (msg++x).length=lo∧Q1 (bB big) (msg++x)=hl++x
theorem qbV (big:Bool)(q o:List Int):qfe big q o (stZ big q o (nbk (bB big) o.length)) (bB big*nbk (bB big) o.length) (Q1 (bB big) o):=by
 intro x G J;obtain⟨I,D⟩:=qgc (Ys big) G J;rw[I,D];exact⟨qcf big q (yP (Ys big) _).1,rfl,rfl⟩
theorem qbW (big:Bool)(q o:List Int)(D:(Q1 (bB big) o).length=bB big):
  qfe big q o (yk big (stZ big q o (nbk (bB big) o.length)) (Q1 (bB big) o) ((bB big*nbk (bB big) o.length+bB big:Nat):Int) false false) (bB big*nbk (bB big) o.length+bB big) []:=by
 intro x J O;obtain⟨I,G,S⟩:=qgd (Ys big) J (by simpa using O) D;have e:bB big*(nbk (bB big) o.length+1)=bB big*nbk (bB big) o.length+bB big:=Nat.mul_succ _ _;rw[I,G];refine⟨?_,e,rfl⟩;rw[qcf big q (by omega),stZ,JM (Ys big),qf2 D,e]
theorem Jf {n:Nat}(q:0<n)(o:List Int):n*nbk n o.length+(Q1 n o).length=o.length:=by
 rw[YS];have:=yP q o.length;omega
def Y0 (big:Bool)(h0 msg:List Int)(node:Bool):List Int:=
 qJ (wB big) (yk big (stZ big h0 msg (nbk (bB big) msg.length)) (JN (bB big) msg (nbk (bB big) msg.length)) (msg.length:Int) true node) 8
theorem ZI (big:Bool)(q o:List Int)(node:Bool):(Y0 big q o node).length=mB big:=by
 unfold Y0;rw[jv];cases big<;>rfl
theorem qdv (big:Bool)(q o:List Int)(node:Bool): ∀z∈Y0 big q o node,0≤z∧z≤255:=jx _ _ _
def h0Z (big:Bool)(block:List Int):List Int:=yh (wK big) (cond big IVb IVs) (wB big) block
theorem QK (big:Bool)(o:List Int):Words (nB big) 8 (h0Z big o):=Yg (qhA big) _ _ _
def yf (n:Nat)(key:List Int):List Int:=if key.length=0 then [] else Qv n key
theorem YJ {n:Nat}{key:List Int}(h: ∀z∈key,0≤z∧z≤255): ∀z∈yf n key,0≤z∧z≤255:=by
 unfold yf;split
 ·intro z o;cases o
 ·exact Q8 h
theorem YI {n:Nat}{key:List Int}(h:key.length≤n):(yf n key).length≤n:=by
 unfold yf;split
 ·simp
 ·rw[QC h];exact Nat.le_refl _
end Go.Proofs.YthjoojnlnlmljaaGreat
