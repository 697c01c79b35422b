/- What the program takes from a block of parameters, of both kinds. No condition. -/
import Derived.Test.YthjoojnlnlmljaaGreatG18
import Derived.Test.YthjoojnlnlmljaaGreatG19
import Derived.Test.YthjoojnlnlmljaaGreatG17
import Derived.Test.YthjoojnlnlmljaaGreatG04
import Derived.Laws.OwnMore
import Derived.Test.YthjoojnlnlmljaaGreatG16
import Derived.Test.YthjoojnlnlmljaaGreatG15
import Derived.Test.YthjoojnlnlmljaaGreatG11
import Derived.Test.YthjoojnlnlmljaaGreatG14
set_option linter.all false
set_option maxRecDepth 100000
set_option maxHeartbeats 8000000
namespace Go.Proofs.YthjoojnlnlmljaaGreat
open Go.ChangeShapes Go.WideShapes Go.ChangeAt Go.RowKit Go.Joins Go.Shelf Go.Maps
open Go.Lib (hid)
attribute [local go_sem] Oper.semAt_some
def okD (big ext:Bool)(zs:List Int):Prop:=zs.length=mB big∧(big=true→ ∀i,18≤i→i<32→qr zs i=0)∧(ext=true→xoZ big ext zs≠0)∧okC big (qr zs 0) (qr zs 1) (qr zs 3) (xoZ big ext zs) (qr zs (atB big 9))
theorem qcC (big:Bool)(zs:List Int)(v:Value)(w:World)(h:Holds8 w v zs)(Z: ∀z∈zs,0≤z∧z≤255)(J: ∀a n c,v= .slice a n c→n≤c∧(c:Int)≤9223372036854775807)(aa:okD big false zs):
  Calls Tryz.prog 97 #[.int .i64 (kB big),v,.bool false] w fun e w'=>(∃fo dp lf ab nd X sa Y,e= .returned (.tuple #[yT (qr zs 0) (qr zs 1) fo dp lf ab 0 nd X sa Y,.int .i64 0])∧sa.oneCell'=true∧Y.oneCell'=true)∧Below w.heap.size w w':=by
 obtain⟨a,I,rfl,h⟩:=h;obtain⟨D,hm, -,k0,O,U,k9⟩:=aa;obtain⟨b,off,rfl,V⟩:=h.resolve_left (fun e=>by rw[e]at D;cases big<;>simp[mB]at D);obtain⟨q,G⟩:=J _ _ _ rfl
 cases big
 ·have o:zs.length=32:=D;rw[o]at q⊢;exact Jd zs b off I w V Z q G o k0 O.2 (U rfl) k9.2
 ·have o:zs.length=64:=D;rw[o]at q⊢;exact JJ zs b off I w V Z q G o (hm rfl) k0 O.2 (U rfl) k9.2
end Go.Proofs.YthjoojnlnlmljaaGreat
namespace Go.Proofs.YthjoojnlnlmljaaGreat
open Go.ChangeShapes Go.WideShapes Go.ChangeAt Go.RowKit Go.Joins Go.Shelf Go.Maps
open Go.Lib (hid)
def szE (big ext:Bool)(f:Nat):Nat:=if f=6∧ext=true then 4 else szB big f
theorem QY (big ext:Bool)(f:Nat)(q:1≤f)(o:f≤9):1≤szE big ext f∧szE big ext f≤8∧atB big f+szE big ext f≤18∧(big=false→atB big f+szE big ext f≤16):=by
 have h:f=1∨f=2∨f=3∨f=4∨f=5∨f=6∨f=7∨f=8∨f=9:=by omega
 rcases h with rfl|rfl|rfl|rfl|rfl|rfl|rfl|rfl|rfl<;>cases big<;>cases ext<;>decide
def Q7 (big ext:Bool)(zs:List Int)(f:Nat):Int:=if f=0 then 0 else Qh zs (atB big f) (szE big ext f)
def Jb (big ext:Bool)(zs:List Int):Nat→List Value
 | 0=>[]
 | k+1=>Jb big ext zs k++[.int .u64 (Q7 big ext zs k)]
theorem zD (big ext:Bool)(zs:List Int): ∀k,(Jb big ext zs k).length=k
 | 0=>rfl
 | k+1=>by simp[Jb,zD big ext zs k]
theorem QE (big ext:Bool)(zs:List Int): ∀k j,j<k→(Jb big ext zs k)[j]? =some (.int .u64 (Q7 big ext zs j))
 | 0,j,h=>by omega
 | k+1,j,h=>by
  rw[Jb];by_cases e:j=k
  ·subst e;rw[List.getElem?_append_right (by rw[zD];exact Nat.le_refl _),zD];simp
  ·rw[List.getElem?_append_left (by rw[zD];omega)];exact QE big ext zs k j (by omega)
theorem qS {big ext:Bool}{zs:List Int}(q: ∀z∈zs,0≤z∧z≤255)(I:zs.length=mB big){f:Nat}(D:1≤f)(o:f≤9):0≤Q7 big ext zs f∧Q7 big ext zs f<2^(8*szE big ext f):=by
 unfold Q7;rw[if_neg (by omega)];have:=QY big ext f D o
 have G:32≤mB big:=by cases big<;>decide
 exact QH q _ (by omega)
theorem Y0 (zs:List Int)(a:Nat):Qh zs a 1=qr zs a:=by simp[Qh]
theorem qiJ {W:World}{B:Nat}{v:Value}{D:List Value}(h:W.ownsRow B 44 1 v 10 D): ∃g q o,v= .slice (some ⟨g,0,none⟩) 10 q∧B≤g∧W.heap[g]? =some (.cells o 44 (0,0))∧10≤o.size∧ ∀j,j<10→o[j]? =D[j]? :=by
 rcases h.2 with⟨-,J⟩|⟨g,q,o,rfl,O,G,V,X,U,I⟩
 ·cases J
 ·refine⟨g,q,o,rfl,O,G,by omega,fun j Y=>?_⟩;rw[←I,List.getElem?_take,if_pos (by omega),Array.getElem?_toList]
end Go.Proofs.YthjoojnlnlmljaaGreat
namespace Go.Proofs.YthjoojnlnlmljaaGreat
open Go.ChangeShapes Go.WideShapes Go.ChangeAt Go.RowKit Go.Joins Go.Shelf Go.Maps
open Go.Lib (hid)
attribute [local go_sem] Oper.semAt_some
theorem ZU (zs:List Int)(b off o:Nat)(w:World)(hB:Qs w b off zs)(hz: ∀z∈zs,0≤z∧z≤255)(ca:64≤o)(b9:(o:Int)≤9223372036854775807)(hl:zs.length=64)(bD: ∀i,18≤i→i<32→qr zs i=0)(bV:1≤qr zs 0∧qr zs 0≤64)(ae:qr zs 1≤64)(bX:1≤qr zs 3)(b4:qr zs 17≤64):
  Calls Tryz.prog 152 #[.int .i64 1,.slice (some ⟨b,off,none⟩) 64 o,.bool false] w fun e w'=>(∃sa pe,e= .returned (.tuple #[yT (qr zs 0) (qr zs 1) (qr zs 2) (qr zs 3) (Qh zs 4 4) (Qh zs 8 8) 0 (qr zs 16) (qr zs 17) sa pe,.int .i64 0])∧w'.ownsRow w.heap.size 5 1 sa (Qj ((zs.drop 32).take 16) 16) ((((zs.drop 32).take 16).take (Qj ((zs.drop 32).take 16) 16)).map qt)∧w'.ownsRow w.heap.size 5 1 pe (Qj ((zs.drop 48).take 16) 16) ((((zs.drop 48).take 16).take (Qj ((zs.drop 48).take 16) 16)).map qt))∧Below w.heap.size w w':=by
 obtain⟨h1,h2⟩:=id hB;have HC:=hid h2;have HB:=hid hB;clear h2 hB;obtain⟨i0,hi,bg,a9,bm⟩:=info_parts Z2;obtain⟨U,ar⟩:=Ex (Q7 true false zs 1);have cr:0≤U∧U<256:=by have:=qS (big:=true) (ext:=false) hz hl (f:=1) (by omega) (by omega);rw[ar]at this;simpa [szE,szB] using this
 have aM:qr zs 0=U:=by rw[←ar];simp[Q7,szE,szB,atB,Y0]
 rw[aM]at bV;try rw[aM]
 obtain⟨Y,aD⟩:=Ex (Q7 true false zs 2);have cb:0≤Y∧Y<256:=by have:=qS (big:=true) (ext:=false) hz hl (f:=2) (by omega) (by omega);rw[aD]at this;simpa [szE,szB] using this
 have aI:qr zs 1=Y:=by rw[←aD];simp[Q7,szE,szB,atB,Y0]
 rw[aI]at ae;try rw[aI]
 obtain⟨V,au⟩:=Ex (Q7 true false zs 3);have ce:0≤V∧V<256:=by have:=qS (big:=true) (ext:=false) hz hl (f:=3) (by omega) (by omega);rw[au]at this;simpa [szE,szB] using this
 have bd:qr zs 2=V:=by rw[←au];simp[Q7,szE,szB,atB,Y0]
 try rw[bd]
 obtain⟨V4,aw⟩:=Ex (Q7 true false zs 4);have cp:0≤V4∧V4<256:=by have:=qS (big:=true) (ext:=false) hz hl (f:=4) (by omega) (by omega);rw[aw]at this;simpa [szE,szB] using this
 have aS:qr zs 3=V4:=by rw[←aw];simp[Q7,szE,szB,atB,Y0]
 rw[aS]at bX;try rw[aS]
 obtain⟨X,aC⟩:=Ex (Q7 true false zs 5);have cj:0≤X∧X<4294967296:=by have:=qS (big:=true) (ext:=false) hz hl (f:=5) (by omega) (by omega);rw[aC]at this;simpa [szE,szB] using this
 have bv:Qh zs 4 4=X:=by rw[←aC];simp[Q7,szE,szB,atB,Y0]
 try rw[bv]
 obtain⟨V6,av⟩:=Ex (Q7 true false zs 6);have ch:0≤V6∧V6<18446744073709551616:=by have:=qS (big:=true) (ext:=false) hz hl (f:=6) (by omega) (by omega);rw[av]at this;simpa [szE,szB] using this
 have bt:Qh zs 8 8=V6:=by rw[←av];simp[Q7,szE,szB,atB,Y0]
 try rw[bt]
 obtain⟨V7,ay⟩:=Ex (Q7 true false zs 7);have cq:0≤V7∧V7<4294967296:=by have:=qS (big:=true) (ext:=false) hz hl (f:=7) (by omega) (by omega);rw[ay]at this;simpa [szE,szB] using this
 have bj:Qh zs 12 4=V7:=by rw[←ay];simp[Q7,szE,szB,atB,Y0]
 try rw[bj]
 obtain⟨Z,aE⟩:=Ex (Q7 true false zs 8);have cw:0≤Z∧Z<256:=by have:=qS (big:=true) (ext:=false) hz hl (f:=8) (by omega) (by omega);rw[aE]at this;simpa [szE,szB] using this
 have bh:qr zs 16=Z:=by rw[←aE];simp[Q7,szE,szB,atB,Y0]
 try rw[bh]
 obtain⟨V9,aA⟩:=Ex (Q7 true false zs 9);have co:0≤V9∧V9<256:=by have:=qS (big:=true) (ext:=false) hz hl (f:=9) (by omega) (by omega);rw[aA]at this;simpa [szE,szB] using this
 have aZ:qr zs 17=V9:=by rw[←aA];simp[Q7,szE,szB,atB,Y0]
 rw[aZ]at b4;try rw[aZ]
 have hs: ∀w:World,Calls Tryz.prog 167 #[.int .i64 1] w fun e w'=>e= .returned (.int .i64 64)∧w'=w:=Yf true
 obtain⟨G,an⟩:=Ex w.heap.size;have aO:b<G:=by rw[←an];exact h1
 have bs: ∀W,Below G w W→Holds8 W (.slice (some ⟨b,off,none⟩) 64 o) zs:=fun W hW=>⟨some ⟨b,off,none⟩,o,by rw[hl],.inr ⟨b,off,rfl,Nat.lt_of_lt_of_le h1 hW.size,fun i hi=>(hW.cell (p:=⟨b,off+i,none⟩) aO).trans (HC.out i hi)⟩⟩
 have bw:=hid bs;clear bs;have ax:Below G w (w.alloc (.cells #[.int .i64 0,.int .i64 0,.int .i64 0,.int .i64 0,.int .u32 0,.int .u64 0,.int .u32 0,.int .i64 0,.int .i64 0,.slice none 0 0,.slice none 0 0] 171)):=by rw[←an];exact Br.alloc Nl _
 have a3:=Wn w (.cells #[.int .i64 0,.int .i64 0,.int .i64 0,.int .i64 0,.int .u32 0,.int .u64 0,.int .u32 0,.int .i64 0,.int .i64 0,.slice none 0 0,.slice none 0 0] 171);rw[an]at a3;have bu:(w.alloc (.cells #[.int .i64 0,.int .i64 0,.int .i64 0,.int .i64 0,.int .u32 0,.int .u64 0,.int .u32 0,.int .i64 0,.int .i64 0,.slice none 0 0,.slice none 0 0] 171)).heap.size=G+1:=by simp[an]
 go_enter Tryz.func152,Tryz.ntmps152
 go_wp2_with fail
 refine(qcc true _ _ _ _).mono ?_;rintro e w1 ⟨⟨x,rfl,hx⟩,hw⟩;rw[hw];clear hw;obtain rfl:x=0:=hx.2 rfl;clear hx;generalize w.alloc (.cells #[.int .i64 0,.int .i64 0,.int .i64 0,.int .i64 0,.int .u32 0,.int .u64 0,.int .u32 0,.int .i64 0,.int .i64 0,.slice none 0 0,.slice none 0 0] 171)=w2 at*;have HR:=hid a3;clear a3;go_wp2_with fail
 go_loopw [9] (fun i wr=> ∃k:Nat,i= .int .i64 (k:Nat)∧18≤k∧k≤32∧w2=wr) (fun i _=>32 - (intOf i).toNat)
 case atStart=>exact⟨18,rfl,by omega,by omega,rfl⟩
 case round=>
  obtain⟨k,rfl,ae,bf,rfl⟩:=hrel;by_cases al:k<32
  ·have hc:=(ax.cell (p:=⟨b,off+k,none⟩) aO).trans (HC.out k (by omega));rw[bD k ae al]at hc;have k3:(k:Int)<64:=by omega
   have k4:0≤(k:Int):=by omega
   go_wp2
   exact⟨⟨k+1,rfl,by omega,by omega,by trivial⟩,by simp[intOf];omega⟩
  ·obtain rfl:k=32:=by omega
   go_wp2_with fail
   have az:(w2.alloc (.cells #[.int .u64 0] 44)).ownsRow (G+1) 44 1 (.slice (some ⟨G+1,0,none⟩) 1 1) 1 (Jb true false zs 1):=by have:=World.ownsRow_lit (base:=G+1) (e:=44) (size:=1) w2 #[.int .u64 0] 1 (by omega) (by decide) rfl;rwa[bu]at this
   have aW:Below (G+1) w2 (w2.alloc (.cells #[.int .u64 0] 44)):=Br.alloc (by omega) _;go_loopw [10,11] (fun v f wr=> ∃(k:Nat),f= .int .i64 (k:Nat)∧1≤k∧k≤10∧wr.ownsRow (G+1) 44 1 v k (Jb true false zs k)∧Below (G+1) w2 wr) (fun _ i _=>10 - (intOf i).toNat)
   case atStart=>exact⟨1,rfl,by omega,by omega,az,aW⟩
   case round=>
    clear az aW;obtain⟨f,rfl,ae,bf,ad,hb⟩:=hrel;have bU:=hb.size;by_cases al:f≤9
    ·have ba:=QY true false f ae al;have bn:Q7 true false zs f=Qh zs (atB true f) (szE true false f):=if_neg (by omega);have e1:=hid (show Jb true false zs (f+1)=Jb true false zs f++[.int .u64 (Qh zs (atB true f) (szE true false f))] by rw[Jb,bn]);have k5:(f:Int)≤9:=by omega
     have aR:=hid (jt true f ⟨ae,al⟩);obtain⟨ap,ah⟩:=Ex (atB true f);obtain⟨bo,aq⟩:=Ex (szB true f);obtain⟨ag,aj⟩:=Ex (szE true false f);have bq:=hid aj;have bi:=hid aq;rw[ah,aj]at e1;rw[ah,aq]at aR;rw[ah,aj]at ba;clear bn ah aq aj;obtain⟨j1,j2,j3,j4⟩:=ba;have j5:ap+ag≤zs.length:=by omega
     clear j4;have bk:Below G w wr:=ax.trans (hb.mono (by omega));by_cases aX:f=6
     case pos=>
      subst aX;go_wp2_with fail
      refine(aR.out _).mono ?_;rintro r w4 ⟨rfl,hw⟩;rw[hw];clear hw;obtain rfl:ag=bo:=by rw[←bq.out,←bi.out];simp[szE]
      go_wp2_with fail
      refine(Zh zs _ ap ag _ (bw.out _ bk) hz (by omega) (by omega) (by omega)).mono ?_;rintro r w5 ⟨rfl,hw⟩;rw[hw];clear hw;go_wp2_with (at_builtin;refine wpList_append_own _ rfl _ _ 105 rfl (G+1) 44 i0 (.int .u64 0) 1 8 Tryz.underlying105 hi bg a9 bm rfl (by decide) _ _ _ rfl (ad.alloc _) ⟨wr.heap.size,0,none⟩ 1 1 [.int .u64 (Qh zs ap ag)] rfl rfl (cell_one_new _ _ _) (by simp[Value.oneCell']) (by unfold maxLen;omega) (by omega) (by simp;omega) ?_;intro v' w6 ac ai _;have af:Below (G+1) w2 w6:=(hb.alloc (by omega) _).grown ai (by simp;omega) (fun k e=>(ad.lt k e).1))
      rw[←e1.out]at ac;refine⟨⟨_,_,_,_,_,_,_,_,_,_,_,_,_,_,_,_,_,_,_,_,_,_,_,_,_,_,⟨7,rfl,by omega,by omega,ac,af⟩,rfl⟩,?_⟩;first|(simp[intOf];done)|(simp[intOf];omega)
     case neg=>
      go_wp2_with fail
      refine(aR.out _).mono ?_;rintro r w4 ⟨rfl,hw⟩;rw[hw];clear hw;obtain rfl:ag=bo:=by rw[←bq.out,←bi.out];simp[szE,aX]
      have cy: ¬((f:Int)=6):=by omega
      have cd: ¬(f=6):=aX;go_wp2_with fail
      refine(Zh zs _ ap ag _ (bw.out _ bk) hz (by omega) (by omega) (by omega)).mono ?_;rintro r w5 ⟨rfl,hw⟩;rw[hw];clear hw;go_wp2_with (at_builtin;refine wpList_append_own _ rfl _ _ 105 rfl (G+1) 44 i0 (.int .u64 0) 1 8 Tryz.underlying105 hi bg a9 bm rfl (by decide) _ _ _ rfl (ad.alloc _) ⟨wr.heap.size,0,none⟩ 1 1 [.int .u64 (Qh zs ap ag)] rfl rfl (cell_one_new _ _ _) (by simp[Value.oneCell']) (by unfold maxLen;omega) (by omega) (by simp;omega) ?_;intro v' w6 ac ai _;have af:Below (G+1) w2 w6:=(hb.alloc (by omega) _).grown ai (by simp;omega) (fun k e=>(ad.lt k e).1))
      rw[←e1.out]at ac;refine⟨⟨_,_,_,_,_,_,_,_,_,_,_,_,_,_,_,_,_,_,_,_,_,_,_,_,_,_,⟨f+1,rfl,by omega,by omega,ac,af⟩,rfl⟩,?_⟩;first|(simp[intOf];done)|(simp[intOf];omega)
    ·obtain rfl:f=10:=by omega
     obtain⟨g,cg,I,rfl,cA,ak,b3,ab⟩:=qiJ ad;have aL:=hid ak;have aF:I[1]? =some (.int .u64 U):=by rw[ab 1 (by omega),QE _ _ _ _ _ (by omega),ar]
     have aT:I[2]? =some (.int .u64 Y):=by rw[ab 2 (by omega),QE _ _ _ _ _ (by omega),aD]
     have aK:I[3]? =some (.int .u64 V):=by rw[ab 3 (by omega),QE _ _ _ _ _ (by omega),au]
     have aV:I[4]? =some (.int .u64 V4):=by rw[ab 4 (by omega),QE _ _ _ _ _ (by omega),aw]
     have aJ:I[5]? =some (.int .u64 X):=by rw[ab 5 (by omega),QE _ _ _ _ _ (by omega),aC]
     have aG:I[6]? =some (.int .u64 V6):=by rw[ab 6 (by omega),QE _ _ _ _ _ (by omega),av]
     have aY:I[7]? =some (.int .u64 V7):=by rw[ab 7 (by omega),QE _ _ _ _ _ (by omega),ay]
     have aH:I[8]? =some (.int .u64 Z):=by rw[ab 8 (by omega),QE _ _ _ _ _ (by omega),aE]
     have aP:I[9]? =some (.int .u64 V9):=by rw[ab 9 (by omega),QE _ _ _ _ _ (by omega),aA]
     have aa:g<wr.heap.size:=(Ai ak).1;have c7:=(qd ak 7).trans aY;have f7:=frozen_of_row wr g 7 _ _ ak;have a7:Below G w wr:=ax.trans (hb.mono (by omega));have aB:wr.heap[G]? =some (.cells #[.int .i64 0,.int .i64 0,.int .i64 0,.int .i64 0,.int .u32 0,.int .u64 0,.int .u32 0,.int .i64 0,.int .i64 0,.slice none 0 0,.slice none 0 0] 171 (0,0)):=(hb.block G (by omega)).trans HR.out;clear ab ad HR hb al ae bf ak bu ax ar aM aD aI au bd aw aS aC bv av bt ay bj aE bh aA aZ;go_upto_region 21 with(fail)
     have J:=heap_setCell_same wr g 7 _ _ (.int .u64 0) aL.out;have bN:=hid ((qd J 1).trans (show(I.setIfInBounds 7 (.int .u64 0))[1]? =some (.int .u64 (U)) by rw[Array.getElem?_setIfInBounds];simpa using aF));have bW:=hid ((qd J 2).trans (show(I.setIfInBounds 7 (.int .u64 0))[2]? =some (.int .u64 (Y)) by rw[Array.getElem?_setIfInBounds];simpa using aT));have b7:=hid ((qd J 3).trans (show(I.setIfInBounds 7 (.int .u64 0))[3]? =some (.int .u64 (V)) by rw[Array.getElem?_setIfInBounds];simpa using aK));have bR:=hid ((qd J 4).trans (show(I.setIfInBounds 7 (.int .u64 0))[4]? =some (.int .u64 (V4)) by rw[Array.getElem?_setIfInBounds];simpa using aV));have bS:=hid ((qd J 5).trans (show(I.setIfInBounds 7 (.int .u64 0))[5]? =some (.int .u64 (X)) by rw[Array.getElem?_setIfInBounds];simpa using aJ));have bK:=hid ((qd J 6).trans (show(I.setIfInBounds 7 (.int .u64 0))[6]? =some (.int .u64 (V6)) by rw[Array.getElem?_setIfInBounds];simpa using aG));have bG:=hid ((qd J 7).trans (show(I.setIfInBounds 7 (.int .u64 0))[7]? =some (.int .u64 (0)) by rw[Array.getElem?_setIfInBounds];simp;omega));have bJ:=hid ((qd J 8).trans (show(I.setIfInBounds 7 (.int .u64 0))[8]? =some (.int .u64 (Z)) by rw[Array.getElem?_setIfInBounds];simpa using aH));have bQ:=hid ((qd J 9).trans (show(I.setIfInBounds 7 (.int .u64 0))[9]? =some (.int .u64 (V9)) by rw[Array.getElem?_setIfInBounds];simpa using aP));have b8:Below G w (wr.setCell ⟨g,7,none⟩ (.int .u64 0)):=a7.setCell (by show G≤g;omega) _;have bb:(wr.setCell ⟨g,7,none⟩ (.int .u64 0)).heap[G]? =some (.cells #[.int .i64 0,.int .i64 0,.int .i64 0,.int .i64 0,.int .u32 0,.int .u64 0,.int .u32 0,.int .i64 0,.int .i64 0,.slice none 0 0,.slice none 0 0] 171 (0,0)):=(heap_setCell_other wr _ _ _ (by show G≠g;omega)).trans aB;have a4:(wr.setCell ⟨g,7,none⟩ (.int .u64 0)).heap.size=wr.heap.size:=by simp[World.setCell]
     rw[←a4]at aa bU;clear a7 aL J a4 c7 f7 aB;generalize wr.setCell ⟨g,7,none⟩ (.int .u64 0)=W8 at*;have aB:=bb;clear bb;clear aF aT aK aV aJ aG aY aH aP b3;go_wp2_with fail
     refine(hs _).mono ?_;rintro r w9 ⟨rfl,hw⟩;rw[hw];clear hw;go_upto_region 22 with(fail)
     refine qD (n:=49) (w0:=W8) (B:=W8.heap.size) [.v 72 (.slice (some ⟨g,0,none⟩) 10 cg),.v 73 (.pointer (some ⟨g,1,none⟩)),.v 74 (.int .u64 U),.v 75 (.int .i64 U),.v 76 (.slice (some ⟨g,0,none⟩) 10 cg),.v 77 (.pointer (some ⟨g,2,none⟩)),.v 78 (.int .u64 Y),.v 79 (.int .i64 Y),.v 80 (.slice (some ⟨g,0,none⟩) 10 cg),.v 81 (.pointer (some ⟨g,3,none⟩)),.v 82 (.int .u64 V),.v 83 (.int .i64 V),.v 84 (.slice (some ⟨g,0,none⟩) 10 cg),.v 85 (.pointer (some ⟨g,4,none⟩)),.v 86 (.int .u64 V4),.v 87 (.int .i64 V4),.v 88 (.slice (some ⟨g,0,none⟩) 10 cg),.v 89 (.pointer (some ⟨g,5,none⟩)),.v 90 (.int .u64 X),.v 91 (.int .u32 X),.v 92 (.slice (some ⟨g,0,none⟩) 10 cg),.v 93 (.pointer (some ⟨g,6,none⟩)),.v 94 (.int .u64 V6),.v 95 (.slice (some ⟨g,0,none⟩) 10 cg),.v 96 (.pointer (some ⟨g,7,none⟩)),.v 97 (.int .u64 0),.v 98 (.int .u32 0),.v 99 (.slice (some ⟨g,0,none⟩) 10 cg),.v 100 (.pointer (some ⟨g,8,none⟩)),.v 101 (.int .u64 Z),.v 102 (.int .i64 Z),.v 103 (.slice (some ⟨g,0,none⟩) 10 cg),.v 104 (.pointer (some ⟨g,9,none⟩)),.v 105 (.int .u64 V9),.v 106 (.int .i64 V9),.v 107 (.slice (some ⟨b,off,none⟩) 64 o),.v 108 (.int .i64 16),.v 109 (.int .i64 32),.v 110 (.int .i64 16),.v 111 (.int .i64 48),.v 112 (.slice (some ⟨b,off+32,none⟩) 16 (o - 32)),.v 113 (.slice (some ⟨b,off,none⟩) 64 o),.v 114 (.int .i64 16),.v 115 (.int .i64 48),.v 116 (.int .i64 16),.v 117 (.int .i64 64),.v 118 (.slice (some ⟨b,off+48,none⟩) 16 (o - 48)),.v 119 (.agg #[.int .i64 U,.int .i64 Y,.int .i64 V,.int .i64 V4,.int .u32 X,.int .u64 V6,.int .u32 0,.int .i64 Z,.int .i64 V9,.slice (some ⟨b,off+32,none⟩) 16 (o - 32),.slice (some ⟨b,off+48,none⟩) 16 (o - 48)]),.p 15 (fun u W=> ∃p,u= .pointer (some ⟨p,0,none⟩)∧W8.heap.size≤p∧W.heap[p]? =some (.cells #[.int .i64 0,.int .i64 0,.int .i64 0,.int .i64 0,.int .u32 0,.int .u64 0,.int .u32 0,.int .i64 0,.int .i64 0,.slice none 0 0,.slice none 0 0] 171 (0,0)))] (by exact⟨(fun _ _ _ h hb=>by obtain⟨p,e,h3,h4⟩:=h;exact⟨p,e,h3,qg h4 hb⟩),trivial⟩) Br.drew Nl ?_ ?_
     ·repeat' (with_reducible first|exact qz|refine qx ?_ ?_)
      all_goals try
       intro A x W O hW am q D K hK;have bZ:=O.2 10 (by decide);conv at bZ=>rhs;whnf
       have a1:=O.2 1 (by decide);conv at a1=>rhs;whnf
       have bO:=O.2 14 (by decide);conv at bO=>rhs;whnf
       simp only[QN,QV]at D;clear q O;first
       | go_simp
         exact hK _ _ BR rfl
       | have y0:=(hW.cell (p:=⟨g,1,none⟩) aa).trans bN.out
         have y1:g<W.heap.size:=by omega
         have y2:IntKind.i64.wrap U=U:=by rw[IntKind.wrap_i64];omega
         have y3:=(hW.cell (p:=⟨g,2,none⟩) aa).trans bW.out;have y4:IntKind.i64.wrap Y=Y:=by rw[IntKind.wrap_i64];omega
         have y5:=(hW.cell (p:=⟨g,3,none⟩) aa).trans b7.out;have y6:IntKind.i64.wrap V=V:=by rw[IntKind.wrap_i64];omega
         have y7:=(hW.cell (p:=⟨g,4,none⟩) aa).trans bR.out;have y8:IntKind.i64.wrap V4=V4:=by rw[IntKind.wrap_i64];omega
         have y9:=(hW.cell (p:=⟨g,5,none⟩) aa).trans bS.out;have cv:IntKind.u32.wrap X=X:=u32_wrap_id _ (by omega) (by omega);have cn:=(hW.cell (p:=⟨g,6,none⟩) aa).trans bK.out;have cc:=(hW.cell (p:=⟨g,7,none⟩) aa).trans bG.out;have ct:=(hW.cell (p:=⟨g,8,none⟩) aa).trans bJ.out;have cm:IntKind.i64.wrap Z=Z:=by rw[IntKind.wrap_i64];omega
         have cf:=(hW.cell (p:=⟨g,9,none⟩) aa).trans bQ.out;have ck:IntKind.i64.wrap V9=V9:=by rw[IntKind.wrap_i64];omega
         have ci: ¬o=32:=by omega
         have cx: ¬o=48:=by omega
         have cl:64≤(o:Int):=by omega
         have cz:48≤(o:Int):=by omega
         go_simp
         exact hK _ _ BR rfl
      ·intro A x W O hW am q _ K hK;have bH:=gv O q 3 75;have bM:=gv O q 7 79;have b6:=gv O q 11 83;have bF:=gv O q 15 87;have bT:=gv O q 19 91;have b5:=gv O q 22 94;have bY:=gv O q 26 98;have bz:=gv O q 30 102;have bE:=gv O q 34 106;have bA:=gv O q 40 112;have bx:=gv O q 46 118;clear q O;refine zm 171 _ rfl #[.int .i64 U,.int .i64 Y,.int .i64 V,.int .i64 V4,.int .u32 X,.int .u64 V6,.int .u32 0,.int .i64 Z,.int .i64 V9,.slice (some ⟨b,off+32,none⟩) 16 (o - 32),.slice (some ⟨b,off+48,none⟩) 16 (o - 48)] ?_ (hK _ _ Br rfl);simp only[List.map_toArray,List.map_cons,List.map_nil,Act.eval,bH,bM,b6,bF,bT,b5,bY,bz,bE,bA,bx];kernel_rfl
      ·intro A x W O hW am q _ K hK;clear q O;go_simp
       exact hK _ _ (Br.alloc Nl _) ⟨W.heap.size,rfl,am,Wn W _⟩
     intro x W hW am bC;obtain⟨bp, -⟩:=bC;change (fun u W=> ∃p,u= .pointer (some ⟨p,0,none⟩)∧W8.heap.size≤p∧W.heap[p]? =some (.cells #[.int .i64 0,.int .i64 0,.int .i64 0,.int .i64 0,.int .u32 0,.int .u64 0,.int .u32 0,.int .i64 0,.int .i64 0,.slice none 0 0,.slice none 0 0] 171 (0,0))) (x 15) W at bp
     obtain⟨p,ep,bP,a6⟩:=bp;refine qp ?_;simp only[QA,Act.put,Ls,ep];refine wpList_store_row rfl 171 _ _ rfl p #[.int .i64 U,.int .i64 Y,.int .i64 V,.int .i64 V4,.int .u32 X,.int .u64 V6,.int .u32 0,.int .i64 Z,.int .i64 V9,.slice (some ⟨b,off+32,none⟩) 16 (o - 32),.slice (some ⟨b,off+48,none⟩) 16 (o - 48)] rfl rfl 171 _ a6 (by kernel_rfl) rfl (by simp[Value.oneCell']) ?_;refine qv ?_;have ao:Below W8.heap.size W8 (W.setRow p #[.int .i64 U,.int .i64 Y,.int .i64 V,.int .i64 V4,.int .u32 X,.int .u64 V6,.int .u32 0,.int .i64 Z,.int .i64 V9,.slice (some ⟨b,off+32,none⟩) 16 (o - 32),.slice (some ⟨b,off+48,none⟩) 16 (o - 48)]):=below_setRow hW bP _;have be:=setRow_heap W p _ #[.int .i64 U,.int .i64 Y,.int .i64 V,.int .i64 V4,.int .u32 X,.int .u64 V6,.int .u32 0,.int .i64 Z,.int .i64 V9,.slice (some ⟨b,off+32,none⟩) 16 (o - 32),.slice (some ⟨b,off+48,none⟩) 16 (o - 48)] _ _ a6;generalize W.setRow p #[.int .i64 U,.int .i64 Y,.int .i64 V,.int .i64 V4,.int .u32 X,.int .u64 V6,.int .u32 0,.int .i64 Z,.int .i64 V9,.slice (some ⟨b,off+32,none⟩) 16 (o - 32),.slice (some ⟨b,off+48,none⟩) 16 (o - 48)]=W3 at ao be⊢;clear ep a6 hW am x W;have cu:=ao.size;have af:Below G w W3:=b8.trans (ao.mono (by omega));have bI:W3.heap[G]? =some (.cells #[.int .i64 0,.int .i64 0,.int .i64 0,.int .i64 0,.int .u32 0,.int .u64 0,.int .u32 0,.int .i64 0,.int .i64 0,.slice none 0 0,.slice none 0 0] 171 (0,0)):=(ao.block G (by omega)).trans aB;have aQ:Qs W3 b off zs:=⟨Nat.lt_of_lt_of_le h1 af.size,fun i hi=>(af.cell (p:=⟨b,off+i,none⟩) aO).trans (HC.out i hi)⟩;have aU:=Jq true U Y V V4 X V6 Z V9 ((zs.drop 32).take 16) ((zs.drop 48).take 16) b (off+32) (o - 32) b (off+48) (o - 48) W3 (YU aQ (by omega)) (YU aQ (by omega)) (by rw[Qy (by omega)];omega) (by rw[Qy (by omega)];omega) (by rw[Qy (by omega)];decide) (by rw[Qy (by omega)];decide) ⟨by simp only[mB,cond];omega,by simp only[mB,cond];omega,by omega,by omega,⟨by omega,fun h=>by cases h⟩,by omega,by simp only[mB,cond];omega⟩;rw[Qy (by omega),Qy (by omega)]at aU;have bc:=hid aU;clear aU aQ ao;go_wp2_with ((with_reducible show wpList _ _ _ (Oper.mk _ (Op.load 171 _) _ _ _ _::_) _ _);refine wpList_load_row rfl 171 _ rfl p rfl _ _ _ _ be Tryz.underlying171 rfl (by kernel_rfl) ?_)
     refine bc.out.mono ?_;rintro r w7 ⟨⟨sa,pe,rfl,os,op⟩,br⟩;clear bc;have bl:=qg bI br;have bL:Below G w w7:=af.trans (br.mono (by omega));obtain⟨a5,n5,k5,rfl⟩:=qu os;obtain⟨a8,n8,k8,rfl⟩:=qu op;unfold yT;go_wp2_with ((with_reducible show wpList _ _ _ (Oper.mk _ (Op.store 171 _ _) _ _ _ _::_) _ _);refine wpList_store_row rfl 171 _ _ rfl G #[.int .i64 U,.int .i64 Y,.int .i64 V,.int .i64 V4,.int .u32 X,.int .u64 V6,.int .u32 0,.int .i64 Z,.int .i64 V9,.slice a5 n5 k5,.slice a8 n8 k8] rfl rfl 171 _ bl (by kernel_rfl) rfl (by simp[Value.oneCell']) ?_)
     have aN: ∀{v:Value} {n:Nat} {xs:List Value},w7.ownsRow W3.heap.size 5 1 v n xs→(w7.setRow G #[.int .i64 U,.int .i64 Y,.int .i64 V,.int .i64 V4,.int .u32 X,.int .u64 V6,.int .u32 0,.int .i64 Z,.int .i64 V9,.slice a5 n5 k5,.slice a8 n8 k8]).ownsRow w.heap.size 5 1 v n xs:=fun h=>ownsRow_le (qk h (fun g g1 _=>setRow_other _ _ _ _ (by omega))) (by omega)
     exact Bp (qE rfl _ _ G _ _ _ _ rfl (setRow_heap _ G _ _ _ _ bl) Tryz.underlying171 rfl (by kernel_rfl)) rfl ⟨⟨_,_,rfl,aN os,aN op⟩,by rw[an];exact below_setRow bL Nl _⟩
theorem ZA (zs:List Int)(b off o:Nat)(w:World)(hB:Qs w b off zs)(hz: ∀z∈zs,0≤z∧z≤255)(b9:32≤o)(b8:(o:Int)≤9223372036854775807)(hl:zs.length=32)(bU:1≤qr zs 0∧qr zs 0≤32)(ak:qr zs 1≤32)(bW:1≤qr zs 3)(b3:qr zs 15≤32):
  Calls Tryz.prog 152 #[.int .i64 2,.slice (some ⟨b,off,none⟩) 32 o,.bool false] w fun e w'=>(∃sa pe,e= .returned (.tuple #[yT (qr zs 0) (qr zs 1) (qr zs 2) (qr zs 3) (Qh zs 4 4) (Qh zs 8 6) 0 (qr zs 14) (qr zs 15) sa pe,.int .i64 0])∧w'.ownsRow w.heap.size 5 1 sa (Qj ((zs.drop 16).take 8) 8) ((((zs.drop 16).take 8).take (Qj ((zs.drop 16).take 8) 8)).map qt)∧w'.ownsRow w.heap.size 5 1 pe (Qj ((zs.drop 24).take 8) 8) ((((zs.drop 24).take 8).take (Qj ((zs.drop 24).take 8) 8)).map qt))∧Below w.heap.size w w':=by
 obtain⟨h1,h2⟩:=id hB;have HC:=hid h2;have HB:=hid hB;clear h2 hB;obtain⟨i0,hi,be,a7,bl⟩:=info_parts Z2;obtain⟨U,aq⟩:=Ex (Q7 false false zs 1);have cq:0≤U∧U<256:=by have:=qS (big:=false) (ext:=false) hz hl (f:=1) (by omega) (by omega);rw[aq]at this;simpa [szE,szB] using this
 have aK:qr zs 0=U:=by rw[←aq];simp[Q7,szE,szB,atB,Y0]
 rw[aK]at bU;try rw[aK]
 obtain⟨Y,aB⟩:=Ex (Q7 false false zs 2);have ca:0≤Y∧Y<256:=by have:=qS (big:=false) (ext:=false) hz hl (f:=2) (by omega) (by omega);rw[aB]at this;simpa [szE,szB] using this
 have aG:qr zs 1=Y:=by rw[←aB];simp[Q7,szE,szB,atB,Y0]
 rw[aG]at ak;try rw[aG]
 obtain⟨V,ar⟩:=Ex (Q7 false false zs 3);have cd:0≤V∧V<256:=by have:=qS (big:=false) (ext:=false) hz hl (f:=3) (by omega) (by omega);rw[ar]at this;simpa [szE,szB] using this
 have bc:qr zs 2=V:=by rw[←ar];simp[Q7,szE,szB,atB,Y0]
 try rw[bc]
 obtain⟨V4,av⟩:=Ex (Q7 false false zs 4);have co:0≤V4∧V4<256:=by have:=qS (big:=false) (ext:=false) hz hl (f:=4) (by omega) (by omega);rw[av]at this;simpa [szE,szB] using this
 have aR:qr zs 3=V4:=by rw[←av];simp[Q7,szE,szB,atB,Y0]
 rw[aR]at bW;try rw[aR]
 obtain⟨X,aA⟩:=Ex (Q7 false false zs 5);have ci:0≤X∧X<4294967296:=by have:=qS (big:=false) (ext:=false) hz hl (f:=5) (by omega) (by omega);rw[aA]at this;simpa [szE,szB] using this
 have bu:Qh zs 4 4=X:=by rw[←aA];simp[Q7,szE,szB,atB,Y0]
 try rw[bu]
 obtain⟨V6,au⟩:=Ex (Q7 false false zs 6);have cf:0≤V6∧V6<281474976710656:=by have:=qS (big:=false) (ext:=false) hz hl (f:=6) (by omega) (by omega);rw[au]at this;simpa [szE,szB] using this
 have bs:Qh zs 8 6=V6:=by rw[←au];simp[Q7,szE,szB,atB,Y0]
 try rw[bs]
 obtain⟨V7,aw⟩:=Ex (Q7 false false zs 7);have cp:0≤V7∧V7<65536:=by have:=qS (big:=false) (ext:=false) hz hl (f:=7) (by omega) (by omega);rw[aw]at this;simpa [szE,szB] using this
 have bi:Qh zs 12 2=V7:=by rw[←aw];simp[Q7,szE,szB,atB,Y0]
 try rw[bi]
 obtain⟨Z,aC⟩:=Ex (Q7 false false zs 8);have cv:0≤Z∧Z<256:=by have:=qS (big:=false) (ext:=false) hz hl (f:=8) (by omega) (by omega);rw[aC]at this;simpa [szE,szB] using this
 have bf:qr zs 14=Z:=by rw[←aC];simp[Q7,szE,szB,atB,Y0]
 try rw[bf]
 obtain⟨V9,ay⟩:=Ex (Q7 false false zs 9);have cn:0≤V9∧V9<256:=by have:=qS (big:=false) (ext:=false) hz hl (f:=9) (by omega) (by omega);rw[ay]at this;simpa [szE,szB] using this
 have aY:qr zs 15=V9:=by rw[←ay];simp[Q7,szE,szB,atB,Y0]
 rw[aY]at b3;try rw[aY]
 have hs: ∀w:World,Calls Tryz.prog 167 #[.int .i64 2] w fun e w'=>e= .returned (.int .i64 32)∧w'=w:=Yf false
 obtain⟨G,am⟩:=Ex w.heap.size;have bg:b<G:=by rw[←am];exact h1
 have br: ∀W,Below G w W→Holds8 W (.slice (some ⟨b,off,none⟩) 32 o) zs:=fun W hW=>⟨some ⟨b,off,none⟩,o,by rw[hl],.inr ⟨b,off,rfl,Nat.lt_of_lt_of_le h1 hW.size,fun i hi=>(hW.cell (p:=⟨b,off+i,none⟩) bg).trans (HC.out i hi)⟩⟩
 have bv:=hid br;clear br;have aL:Below G w (w.alloc (.cells #[.int .i64 0,.int .i64 0,.int .i64 0,.int .i64 0,.int .u32 0,.int .u64 0,.int .u32 0,.int .i64 0,.int .i64 0,.slice none 0 0,.slice none 0 0] 171)):=by rw[←am];exact Br.alloc Nl _
 have aZ:=Wn w (.cells #[.int .i64 0,.int .i64 0,.int .i64 0,.int .i64 0,.int .u32 0,.int .u64 0,.int .u32 0,.int .i64 0,.int .i64 0,.slice none 0 0,.slice none 0 0] 171);rw[am]at aZ;have bt:(w.alloc (.cells #[.int .i64 0,.int .i64 0,.int .i64 0,.int .i64 0,.int .u32 0,.int .u64 0,.int .u32 0,.int .i64 0,.int .i64 0,.slice none 0 0,.slice none 0 0] 171)).heap.size=G+1:=by simp[am]
 go_enter Tryz.func152,Tryz.ntmps152
 go_wp2_with fail
 refine(qcc false _ _ _ _).mono ?_;rintro e w1 ⟨⟨x,rfl,hx⟩,hw⟩;rw[hw];clear hw;obtain rfl:x=0:=hx.2 rfl;clear hx;generalize w.alloc (.cells #[.int .i64 0,.int .i64 0,.int .i64 0,.int .i64 0,.int .u32 0,.int .u64 0,.int .u32 0,.int .i64 0,.int .i64 0,.slice none 0 0,.slice none 0 0] 171)=w2 at*;have HR:=hid aZ;clear aZ;go_wp2_with fail
 go_loopw [9] (fun i wr=>i= .int .i64 18∧w2=wr) (fun _ _=>0)
 case atStart=>exact⟨rfl,rfl⟩
 case round=>
  obtain⟨rfl,rfl⟩:=hrel
  ·skip
   go_wp2_with fail
   have ax:(w2.alloc (.cells #[.int .u64 0] 44)).ownsRow (G+1) 44 1 (.slice (some ⟨G+1,0,none⟩) 1 1) 1 (Jb false false zs 1):=by have:=World.ownsRow_lit (base:=G+1) (e:=44) (size:=1) w2 #[.int .u64 0] 1 (by omega) (by decide) rfl;rwa[bt]at this
   have aV:Below (G+1) w2 (w2.alloc (.cells #[.int .u64 0] 44)):=Br.alloc (by omega) _;go_loopw [10,11] (fun v f wr=> ∃(k:Nat),f= .int .i64 (k:Nat)∧1≤k∧k≤10∧wr.ownsRow (G+1) 44 1 v k (Jb false false zs k)∧Below (G+1) w2 wr) (fun _ i _=>10 - (intOf i).toNat)
   case atStart=>exact⟨1,rfl,by omega,by omega,ax,aV⟩
   case round=>
    clear ax aV;obtain⟨f,rfl,ak,bL,ad,hb⟩:=hrel;have bT:=hb.size;by_cases aM:f≤9
    ·have a9:=QY false false f ak aM;have bm:Q7 false false zs f=Qh zs (atB false f) (szE false false f):=if_neg (by omega);have e1:=hid (show Jb false false zs (f+1)=Jb false false zs f++[.int .u64 (Qh zs (atB false f) (szE false false f))] by rw[Jb,bm]);have k5:(f:Int)≤9:=by omega
     have aQ:=hid (jt false f ⟨ak,aM⟩);obtain⟨ao,ag⟩:=Ex (atB false f);obtain⟨bn,ap⟩:=Ex (szB false f);obtain⟨af,ai⟩:=Ex (szE false false f);have bp:=hid ai;have bh:=hid ap;rw[ag,ai]at e1;rw[ag,ap]at aQ;rw[ag,ai]at a9;clear bm ag ap ai;obtain⟨j1,j2,j3,j4⟩:=a9;have j5:ao+af≤zs.length:=by omega
     clear j4;have bj:Below G w wr:=aL.trans (hb.mono (by omega));by_cases aW:f=6
     case pos=>
      subst aW;go_wp2_with fail
      refine(aQ.out _).mono ?_;rintro r w4 ⟨rfl,hw⟩;rw[hw];clear hw;obtain rfl:af=bn:=by rw[←bp.out,←bh.out];simp[szE]
      go_wp2_with fail
      refine(Zh zs _ ao af _ (bv.out _ bj) hz (by omega) (by omega) (by omega)).mono ?_;rintro r w5 ⟨rfl,hw⟩;rw[hw];clear hw;go_wp2_with (at_builtin;refine wpList_append_own _ rfl _ _ 105 rfl (G+1) 44 i0 (.int .u64 0) 1 8 Tryz.underlying105 hi be a7 bl rfl (by decide) _ _ _ rfl (ad.alloc _) ⟨wr.heap.size,0,none⟩ 1 1 [.int .u64 (Qh zs ao af)] rfl rfl (cell_one_new _ _ _) (by simp[Value.oneCell']) (by unfold maxLen;omega) (by omega) (by simp;omega) ?_;intro v' w6 ac ah _;have ae:Below (G+1) w2 w6:=(hb.alloc (by omega) _).grown ah (by simp;omega) (fun k e=>(ad.lt k e).1))
      rw[←e1.out]at ac;refine⟨⟨7,rfl,by omega,by omega,ac,ae⟩,?_⟩;first|(simp[intOf];done)|(simp[intOf];omega)
     case neg=>
      go_wp2_with fail
      refine(aQ.out _).mono ?_;rintro r w4 ⟨rfl,hw⟩;rw[hw];clear hw;obtain rfl:af=bn:=by rw[←bp.out,←bh.out];simp[szE,aW]
      have cx: ¬((f:Int)=6):=by omega
      have cc: ¬(f=6):=aW;go_wp2_with fail
      refine(Zh zs _ ao af _ (bv.out _ bj) hz (by omega) (by omega) (by omega)).mono ?_;rintro r w5 ⟨rfl,hw⟩;rw[hw];clear hw;go_wp2_with (at_builtin;refine wpList_append_own _ rfl _ _ 105 rfl (G+1) 44 i0 (.int .u64 0) 1 8 Tryz.underlying105 hi be a7 bl rfl (by decide) _ _ _ rfl (ad.alloc _) ⟨wr.heap.size,0,none⟩ 1 1 [.int .u64 (Qh zs ao af)] rfl rfl (cell_one_new _ _ _) (by simp[Value.oneCell']) (by unfold maxLen;omega) (by omega) (by simp;omega) ?_;intro v' w6 ac ah _;have ae:Below (G+1) w2 w6:=(hb.alloc (by omega) _).grown ah (by simp;omega) (fun k e=>(ad.lt k e).1))
      rw[←e1.out]at ac;refine⟨⟨f+1,rfl,by omega,by omega,ac,ae⟩,?_⟩;first|(simp[intOf];done)|(simp[intOf];omega)
    ·obtain rfl:f=10:=by omega
     obtain⟨g,cg,I,rfl,cz,aj,bZ,ab⟩:=qiJ ad;have aJ:=hid aj;have aD:I[1]? =some (.int .u64 U):=by rw[ab 1 (by omega),QE _ _ _ _ _ (by omega),aq]
     have aS:I[2]? =some (.int .u64 Y):=by rw[ab 2 (by omega),QE _ _ _ _ _ (by omega),aB]
     have aI:I[3]? =some (.int .u64 V):=by rw[ab 3 (by omega),QE _ _ _ _ _ (by omega),ar]
     have aU:I[4]? =some (.int .u64 V4):=by rw[ab 4 (by omega),QE _ _ _ _ _ (by omega),av]
     have aH:I[5]? =some (.int .u64 X):=by rw[ab 5 (by omega),QE _ _ _ _ _ (by omega),aA]
     have aE:I[6]? =some (.int .u64 V6):=by rw[ab 6 (by omega),QE _ _ _ _ _ (by omega),au]
     have aX:I[7]? =some (.int .u64 V7):=by rw[ab 7 (by omega),QE _ _ _ _ _ (by omega),aw]
     have aF:I[8]? =some (.int .u64 Z):=by rw[ab 8 (by omega),QE _ _ _ _ _ (by omega),aC]
     have aO:I[9]? =some (.int .u64 V9):=by rw[ab 9 (by omega),QE _ _ _ _ _ (by omega),ay]
     have aa:g<wr.heap.size:=(Ai aj).1;have c7:=(qd aj 7).trans aX;have f7:=frozen_of_row wr g 7 _ _ aj;have a6:Below G w wr:=aL.trans (hb.mono (by omega));have az:wr.heap[G]? =some (.cells #[.int .i64 0,.int .i64 0,.int .i64 0,.int .i64 0,.int .u32 0,.int .u64 0,.int .u32 0,.int .i64 0,.int .i64 0,.slice none 0 0,.slice none 0 0] 171 (0,0)):=(hb.block G (by omega)).trans HR.out;clear ab ad HR hb aM ak bL aj bt aL aq aK aB aG ar bc av aR aA bu au bs aw bi aC bf ay aY;go_upto_region 21 with(fail)
     have J:=heap_setCell_same wr g 7 _ _ (.int .u64 0) aJ.out;have bM:=hid ((qd J 1).trans (show(I.setIfInBounds 7 (.int .u64 0))[1]? =some (.int .u64 (U)) by rw[Array.getElem?_setIfInBounds];simpa using aD));have bV:=hid ((qd J 2).trans (show(I.setIfInBounds 7 (.int .u64 0))[2]? =some (.int .u64 (Y)) by rw[Array.getElem?_setIfInBounds];simpa using aS));have b6:=hid ((qd J 3).trans (show(I.setIfInBounds 7 (.int .u64 0))[3]? =some (.int .u64 (V)) by rw[Array.getElem?_setIfInBounds];simpa using aI));have bQ:=hid ((qd J 4).trans (show(I.setIfInBounds 7 (.int .u64 0))[4]? =some (.int .u64 (V4)) by rw[Array.getElem?_setIfInBounds];simpa using aU));have bR:=hid ((qd J 5).trans (show(I.setIfInBounds 7 (.int .u64 0))[5]? =some (.int .u64 (X)) by rw[Array.getElem?_setIfInBounds];simpa using aH));have bI:=hid ((qd J 6).trans (show(I.setIfInBounds 7 (.int .u64 0))[6]? =some (.int .u64 (V6)) by rw[Array.getElem?_setIfInBounds];simpa using aE));have bE:=hid ((qd J 7).trans (show(I.setIfInBounds 7 (.int .u64 0))[7]? =some (.int .u64 (0)) by rw[Array.getElem?_setIfInBounds];simp;omega));have bH:=hid ((qd J 8).trans (show(I.setIfInBounds 7 (.int .u64 0))[8]? =some (.int .u64 (Z)) by rw[Array.getElem?_setIfInBounds];simpa using aF));have bP:=hid ((qd J 9).trans (show(I.setIfInBounds 7 (.int .u64 0))[9]? =some (.int .u64 (V9)) by rw[Array.getElem?_setIfInBounds];simpa using aO));have b7:Below G w (wr.setCell ⟨g,7,none⟩ (.int .u64 0)):=a6.setCell (by show G≤g;omega) _;have ba:(wr.setCell ⟨g,7,none⟩ (.int .u64 0)).heap[G]? =some (.cells #[.int .i64 0,.int .i64 0,.int .i64 0,.int .i64 0,.int .u32 0,.int .u64 0,.int .u32 0,.int .i64 0,.int .i64 0,.slice none 0 0,.slice none 0 0] 171 (0,0)):=(heap_setCell_other wr _ _ _ (by show G≠g;omega)).trans az;have a3:(wr.setCell ⟨g,7,none⟩ (.int .u64 0)).heap.size=wr.heap.size:=by simp[World.setCell]
     rw[←a3]at aa bT;clear a6 aJ J a3 c7 f7 az;generalize wr.setCell ⟨g,7,none⟩ (.int .u64 0)=W8 at*;have az:=ba;clear ba;clear aD aS aI aU aH aE aX aF aO bZ;go_wp2_with fail
     refine(hs _).mono ?_;rintro r w9 ⟨rfl,hw⟩;rw[hw];clear hw;go_upto_region 22 with(fail)
     refine qD (n:=49) (w0:=W8) (B:=W8.heap.size) [.v 72 (.slice (some ⟨g,0,none⟩) 10 cg),.v 73 (.pointer (some ⟨g,1,none⟩)),.v 74 (.int .u64 U),.v 75 (.int .i64 U),.v 76 (.slice (some ⟨g,0,none⟩) 10 cg),.v 77 (.pointer (some ⟨g,2,none⟩)),.v 78 (.int .u64 Y),.v 79 (.int .i64 Y),.v 80 (.slice (some ⟨g,0,none⟩) 10 cg),.v 81 (.pointer (some ⟨g,3,none⟩)),.v 82 (.int .u64 V),.v 83 (.int .i64 V),.v 84 (.slice (some ⟨g,0,none⟩) 10 cg),.v 85 (.pointer (some ⟨g,4,none⟩)),.v 86 (.int .u64 V4),.v 87 (.int .i64 V4),.v 88 (.slice (some ⟨g,0,none⟩) 10 cg),.v 89 (.pointer (some ⟨g,5,none⟩)),.v 90 (.int .u64 X),.v 91 (.int .u32 X),.v 92 (.slice (some ⟨g,0,none⟩) 10 cg),.v 93 (.pointer (some ⟨g,6,none⟩)),.v 94 (.int .u64 V6),.v 95 (.slice (some ⟨g,0,none⟩) 10 cg),.v 96 (.pointer (some ⟨g,7,none⟩)),.v 97 (.int .u64 0),.v 98 (.int .u32 0),.v 99 (.slice (some ⟨g,0,none⟩) 10 cg),.v 100 (.pointer (some ⟨g,8,none⟩)),.v 101 (.int .u64 Z),.v 102 (.int .i64 Z),.v 103 (.slice (some ⟨g,0,none⟩) 10 cg),.v 104 (.pointer (some ⟨g,9,none⟩)),.v 105 (.int .u64 V9),.v 106 (.int .i64 V9),.v 107 (.slice (some ⟨b,off,none⟩) 32 o),.v 108 (.int .i64 8),.v 109 (.int .i64 16),.v 110 (.int .i64 8),.v 111 (.int .i64 24),.v 112 (.slice (some ⟨b,off+16,none⟩) 8 (o - 16)),.v 113 (.slice (some ⟨b,off,none⟩) 32 o),.v 114 (.int .i64 8),.v 115 (.int .i64 24),.v 116 (.int .i64 8),.v 117 (.int .i64 32),.v 118 (.slice (some ⟨b,off+24,none⟩) 8 (o - 24)),.v 119 (.agg #[.int .i64 U,.int .i64 Y,.int .i64 V,.int .i64 V4,.int .u32 X,.int .u64 V6,.int .u32 0,.int .i64 Z,.int .i64 V9,.slice (some ⟨b,off+16,none⟩) 8 (o - 16),.slice (some ⟨b,off+24,none⟩) 8 (o - 24)]),.p 15 (fun u W=> ∃p,u= .pointer (some ⟨p,0,none⟩)∧W8.heap.size≤p∧W.heap[p]? =some (.cells #[.int .i64 0,.int .i64 0,.int .i64 0,.int .i64 0,.int .u32 0,.int .u64 0,.int .u32 0,.int .i64 0,.int .i64 0,.slice none 0 0,.slice none 0 0] 171 (0,0)))] (by exact⟨(fun _ _ _ h hb=>by obtain⟨p,e,h3,h4⟩:=h;exact⟨p,e,h3,qg h4 hb⟩),trivial⟩) Br.drew Nl ?_ ?_
     ·repeat' (with_reducible first|exact qz|refine qx ?_ ?_)
      all_goals try
       intro A x W O hW al q D K hK;have bY:=O.2 10 (by decide);conv at bY=>rhs;whnf
       have a1:=O.2 1 (by decide);conv at a1=>rhs;whnf
       have bN:=O.2 14 (by decide);conv at bN=>rhs;whnf
       simp only[QN,QV]at D;clear q O;first
       | go_simp
         exact hK _ _ BR rfl
       | have y0:=(hW.cell (p:=⟨g,1,none⟩) aa).trans bM.out
         have y1:g<W.heap.size:=by omega
         have y2:IntKind.i64.wrap U=U:=by rw[IntKind.wrap_i64];omega
         have y3:=(hW.cell (p:=⟨g,2,none⟩) aa).trans bV.out;have y4:IntKind.i64.wrap Y=Y:=by rw[IntKind.wrap_i64];omega
         have y5:=(hW.cell (p:=⟨g,3,none⟩) aa).trans b6.out;have y6:IntKind.i64.wrap V=V:=by rw[IntKind.wrap_i64];omega
         have y7:=(hW.cell (p:=⟨g,4,none⟩) aa).trans bQ.out;have y8:IntKind.i64.wrap V4=V4:=by rw[IntKind.wrap_i64];omega
         have y9:=(hW.cell (p:=⟨g,5,none⟩) aa).trans bR.out;have cu:IntKind.u32.wrap X=X:=u32_wrap_id _ (by omega) (by omega);have cm:=(hW.cell (p:=⟨g,6,none⟩) aa).trans bI.out;have cb:=(hW.cell (p:=⟨g,7,none⟩) aa).trans bE.out;have cr:=(hW.cell (p:=⟨g,8,none⟩) aa).trans bH.out;have cl:IntKind.i64.wrap Z=Z:=by rw[IntKind.wrap_i64];omega
         have ce:=(hW.cell (p:=⟨g,9,none⟩) aa).trans bP.out;have cj:IntKind.i64.wrap V9=V9:=by rw[IntKind.wrap_i64];omega
         have ch: ¬o=16:=by omega
         have cw: ¬o=24:=by omega
         have ck:32≤(o:Int):=by omega
         have cy:24≤(o:Int):=by omega
         go_simp
         exact hK _ _ BR rfl
      ·intro A x W O hW al q _ K hK;have bF:=gv O q 3 75;have bK:=gv O q 7 79;have b5:=gv O q 11 83;have bD:=gv O q 15 87;have bS:=gv O q 19 91;have b4:=gv O q 22 94;have bX:=gv O q 26 98;have bx:=gv O q 30 102;have bC:=gv O q 34 106;have bz:=gv O q 40 112;have bw:=gv O q 46 118;clear q O;refine zm 171 _ rfl #[.int .i64 U,.int .i64 Y,.int .i64 V,.int .i64 V4,.int .u32 X,.int .u64 V6,.int .u32 0,.int .i64 Z,.int .i64 V9,.slice (some ⟨b,off+16,none⟩) 8 (o - 16),.slice (some ⟨b,off+24,none⟩) 8 (o - 24)] ?_ (hK _ _ Br rfl);simp only[List.map_toArray,List.map_cons,List.map_nil,Act.eval,bF,bK,b5,bD,bS,b4,bX,bx,bC,bz,bw];kernel_rfl
      ·intro A x W O hW al q _ K hK;clear q O;go_simp
       exact hK _ _ (Br.alloc Nl _) ⟨W.heap.size,rfl,al,Wn W _⟩
     intro x W hW al bA;obtain⟨bo, -⟩:=bA;change (fun u W=> ∃p,u= .pointer (some ⟨p,0,none⟩)∧W8.heap.size≤p∧W.heap[p]? =some (.cells #[.int .i64 0,.int .i64 0,.int .i64 0,.int .i64 0,.int .u32 0,.int .u64 0,.int .u32 0,.int .i64 0,.int .i64 0,.slice none 0 0,.slice none 0 0] 171 (0,0))) (x 15) W at bo
     obtain⟨p,ep,bO,a4⟩:=bo;refine qp ?_;simp only[QA,Act.put,Ls,ep];refine wpList_store_row rfl 171 _ _ rfl p #[.int .i64 U,.int .i64 Y,.int .i64 V,.int .i64 V4,.int .u32 X,.int .u64 V6,.int .u32 0,.int .i64 Z,.int .i64 V9,.slice (some ⟨b,off+16,none⟩) 8 (o - 16),.slice (some ⟨b,off+24,none⟩) 8 (o - 24)] rfl rfl 171 _ a4 (by kernel_rfl) rfl (by simp[Value.oneCell']) ?_;refine qv ?_;have an:Below W8.heap.size W8 (W.setRow p #[.int .i64 U,.int .i64 Y,.int .i64 V,.int .i64 V4,.int .u32 X,.int .u64 V6,.int .u32 0,.int .i64 Z,.int .i64 V9,.slice (some ⟨b,off+16,none⟩) 8 (o - 16),.slice (some ⟨b,off+24,none⟩) 8 (o - 24)]):=below_setRow hW bO _;have bd:=setRow_heap W p _ #[.int .i64 U,.int .i64 Y,.int .i64 V,.int .i64 V4,.int .u32 X,.int .u64 V6,.int .u32 0,.int .i64 Z,.int .i64 V9,.slice (some ⟨b,off+16,none⟩) 8 (o - 16),.slice (some ⟨b,off+24,none⟩) 8 (o - 24)] _ _ a4;generalize W.setRow p #[.int .i64 U,.int .i64 Y,.int .i64 V,.int .i64 V4,.int .u32 X,.int .u64 V6,.int .u32 0,.int .i64 Z,.int .i64 V9,.slice (some ⟨b,off+16,none⟩) 8 (o - 16),.slice (some ⟨b,off+24,none⟩) 8 (o - 24)]=W3 at an bd⊢;clear ep a4 hW al x W;have ct:=an.size;have ae:Below G w W3:=b7.trans (an.mono (by omega));have bG:W3.heap[G]? =some (.cells #[.int .i64 0,.int .i64 0,.int .i64 0,.int .i64 0,.int .u32 0,.int .u64 0,.int .u32 0,.int .i64 0,.int .i64 0,.slice none 0 0,.slice none 0 0] 171 (0,0)):=(an.block G (by omega)).trans az;have aP:Qs W3 b off zs:=⟨Nat.lt_of_lt_of_le h1 ae.size,fun i hi=>(ae.cell (p:=⟨b,off+i,none⟩) bg).trans (HC.out i hi)⟩;have aT:=Jq false U Y V V4 X V6 Z V9 ((zs.drop 16).take 8) ((zs.drop 24).take 8) b (off+16) (o - 16) b (off+24) (o - 24) W3 (YU aP (by omega)) (YU aP (by omega)) (by rw[Qy (by omega)];omega) (by rw[Qy (by omega)];omega) (by rw[Qy (by omega)];decide) (by rw[Qy (by omega)];decide) ⟨by simp only[mB,cond];omega,by simp only[mB,cond];omega,by omega,by omega,⟨by omega,fun h=>by omega⟩,by omega,by simp only[mB,cond];omega⟩;rw[Qy (by omega),Qy (by omega)]at aT;have bb:=hid aT;clear aT aP an;go_wp2_with ((with_reducible show wpList _ _ _ (Oper.mk _ (Op.load 171 _) _ _ _ _::_) _ _);refine wpList_load_row rfl 171 _ rfl p rfl _ _ _ _ bd Tryz.underlying171 rfl (by kernel_rfl) ?_)
     refine bb.out.mono ?_;rintro r w7 ⟨⟨sa,pe,rfl,os,op⟩,bq⟩;clear bb;have bk:=qg bG bq;have bJ:Below G w w7:=ae.trans (bq.mono (by omega));obtain⟨a5,n5,k5,rfl⟩:=qu os;obtain⟨a8,n8,k8,rfl⟩:=qu op;unfold yT;go_wp2_with ((with_reducible show wpList _ _ _ (Oper.mk _ (Op.store 171 _ _) _ _ _ _::_) _ _);refine wpList_store_row rfl 171 _ _ rfl G #[.int .i64 U,.int .i64 Y,.int .i64 V,.int .i64 V4,.int .u32 X,.int .u64 V6,.int .u32 0,.int .i64 Z,.int .i64 V9,.slice a5 n5 k5,.slice a8 n8 k8] rfl rfl 171 _ bk (by kernel_rfl) rfl (by simp[Value.oneCell']) ?_)
     have aN: ∀{v:Value} {n:Nat} {xs:List Value},w7.ownsRow W3.heap.size 5 1 v n xs→(w7.setRow G #[.int .i64 U,.int .i64 Y,.int .i64 V,.int .i64 V4,.int .u32 X,.int .u64 V6,.int .u32 0,.int .i64 Z,.int .i64 V9,.slice a5 n5 k5,.slice a8 n8 k8]).ownsRow w.heap.size 5 1 v n xs:=fun h=>ownsRow_le (qk h (fun g g1 _=>setRow_other _ _ _ _ (by omega))) (by omega)
     exact Bp (qE rfl _ _ G _ _ _ _ rfl (setRow_heap _ G _ _ _ _ bk) Tryz.underlying171 rfl (by kernel_rfl)) rfl ⟨⟨_,_,rfl,aN os,aN op⟩,by rw[am];exact below_setRow bJ Nl _⟩
end Go.Proofs.YthjoojnlnlmljaaGreat
namespace Go.Proofs.YthjoojnlnlmljaaGreat
open Go.ChangeShapes Go.WideShapes Go.ChangeAt Go.RowKit Go.Joins Go.Shelf Go.Maps
open Go.Lib (hid)
attribute [local go_sem] Oper.semAt_some YI
theorem qcU (x n:Nat)(hn:n≤8)(hx:(x:Int)≤18446744073709551615)(w:World):
  Calls Tryz.prog 192 #[.int .u64 x,.int .i64 (n:Nat)] w fun e w'=> ∃v,e= .returned v∧w'.ownsRow w.heap.size 5 1 v n ((Qg x n).map qt)∧Below w.heap.size w w':=by
 obtain⟨i0,hi,V,Y,J⟩:=info_parts QD;go_enter Tryz.func192,Tryz.ntmps192
 go_wp2_with fail
 go_loopw [0,5,6] (fun t o i wr=> ∃(k:Nat) (v:Value),t= .int .u64 (jD x k:Nat)∧o=v∧i= .int .i64 k∧k≤n∧wr.ownsRow w.heap.size 5 1 v k ((Qg x k).map qt)∧Below w.heap.size w wr) (fun _ _ i _=>n - (intOf i).toNat)
 case atStart=>exact⟨0,_,by simp[jD],rfl,rfl,by omega,Wo _ _ _ _,Below.refl _ _⟩
 case round=>
  obtain⟨k,v,rfl,rfl,rfl,hk,q,I⟩:=hrel;have X:=I.size;by_cases aa:k<n
  ·have q1:=qho x k;have q2:=qhp x k;have q4:IntKind.u64.wrap ((jD x (k+1):Nat):Int)=((jD x (k+1):Nat):Int):=u64_wrap_id _ (by omega) (by have:=qfR x (k+1);omega);have q3:(jD x k:Int)≤18446744073709551615:=by have:=qfR x k;omega
   have O:(Qg x (k+1)).map qt=(Qg x k).map qt++[.int .u8 (byt x k)]:=by rw[zL,List.map_append];rfl
   have Z:=hid O;clear O;go_wp2_with (at_builtin;refine wpList_append_own _ rfl _ _ 24 rfl w.heap.size 5 i0 (.int .u8 0) 1 1 Tryz.underlying24 hi V Y J rfl (by decide) _ _ _ rfl (q.alloc _) ⟨wr.heap.size,0,none⟩ 1 1 [.int .u8 (byt x k)] rfl rfl (cell_one_new _ _ _) (by simp[Value.oneCell']) (by unfold maxLen;omega) (by omega) (by simp;omega) ?_;intro v' w2 D G _;have U:Below w.heap.size w w2:=(I.alloc X _).grown G (by simp;omega) (fun k e=>(q.lt k e).1))
   rw[←Z.out]at D;exact⟨⟨k+1,v',rfl,rfl,rfl,by omega,D,U⟩,by simp[intOf];omega⟩
  ·obtain rfl:k=n:=by omega
   go_wp2
   go_ret
   exact⟨_,rfl,q,I⟩
def wB (big:Bool):Nat:=cond big 8 4
theorem qbi (big:Bool)(w:World):
  Calls Tryz.prog 154 #[.int .i64 (kB big)] w fun e w'=>e= .returned (.int .i64 (mB big:Nat))∧w'=w:=by
 cases big<;>
 ·simp only[kB,mB,cond];go_enter Tryz.func154,Tryz.ntmps154
  go_wp2
  go_ret
  exact⟨rfl,rfl⟩
theorem qar (big:Bool)(h:List Int)(hh:Words 64 16 h)(w:World):
  Calls Tryz.prog 178 #[.int .i64 (kB big),.agg (qi .u64 h)] w fun e w'=> ∃v,e= .returned v∧w'.ownsRow w.heap.size 5 1 v (wB big*8) ((qN (wB big) h 8).map qt)∧Below w.heap.size w w':=by
 obtain⟨i0,hi,ar,an,ak⟩:=info_parts QD;obtain⟨G,Z⟩:=Ex w.heap.size;have aj:Below G w (w.alloc (.cells (qi .u64 h) 252)):=by rw[←Z];exact Br.alloc Nl _
 have ad:wB big≤8:=by cases big<;>decide
 have aC:0<wB big:=by cases big<;>decide
 have ax:(((mB big:Nat):Int).tdiv 8)=(wB big:Nat):=by cases big<;>rfl
 go_enter Tryz.func178,Tryz.ntmps178
 go_wp2_with fail
 go_loopw [5,6] (fun o i wr=> ∃(k:Nat) (v:Value),o=v∧i= .int .i64 k∧k≤8∧wr.ownsRow (G+1) 5 1 v (wB big*k) ((qN (wB big) h k).map qt)∧Below (G+1) (w.alloc (.cells (qi .u64 h) 252)) wr) (fun _ i _=>8 - (intOf i).toNat)
 case atStart=>exact⟨0,_,rfl,rfl,by omega,Wo _ _ _ _,Below.refl _ _⟩
 case round=>
  obtain⟨k,v,rfl,rfl,hk,aa,Y⟩:=hrel;have am:G+1≤wr.heap.size:=by have:=Y.size;simp at this;omega
  by_cases aB:k<8
  ·have ac:wr.cell? ⟨G,k,none⟩=some (.int .u64 (wd h k)):=by
    rw[Y.cell (p:=⟨G,k,none⟩) (by show G<G+1;omega),←Z,qd (Wn w _) k];exact qC hh (by omega)
   have af:G<wr.heap.size:=by omega
   have ai:=yl hh (show k<16 by omega);obtain⟨X,hX,al⟩: ∃X:Nat,wd h k=(X:Int)∧(wd h k).toNat=X:=⟨(wd h k).toNat,by omega,rfl⟩;rw[hX]at ac ai;have aq:(X:Int)≤18446744073709551615:=by omega
   have aw:wB big*k≤64:=by have:=Nat.mul_le_mul ad (show k≤8 by omega);omega
   have av:IntKind.i64.wrap (((mB big:Nat):Int).tdiv 8)=(wB big:Nat):=by cases big<;>rfl
   have au:IntKind.i64.wrap ((wB big:Nat):Int)=(wB big:Nat):=by cases big<;>rfl
   have k1:(k:Int)<16:=by omega
   have k2:0≤(k:Int):=by omega
   have ah:Below wr.heap.size wr wr.drew:=Br.drew;go_wp2_with fail
   rw[decide_eq_true (show(k:Int)<8 by omega)];refine qD (n:=8) (w0:=wr) (B:=wr.heap.size) [.v 11 u5,.v 12 (.int .i64 (k:Nat)),.v 13 (.pointer (some ⟨G,k,none⟩)),.v 14 (.int .u64 (X:Nat)),.v 15 (.int .i64 (kB big)),.v 16 (.int .i64 (mB big:Nat)),.v 17 (.int .i64 (wB big:Nat)),.p 18 (fun u W=>W.ownsRow wr.heap.size 5 1 u (wB big) ((Qg X (wB big)).map qt))] (by exact⟨(fun _ _ _ h Y=>qk h (fun g _ g2=>Y.block g g2)),trivial⟩) ah Nl ?_ ?_
   ·repeat' (with_reducible first|exact qz|refine qx ?_ ?_)
    all_goals try
     intro A x W I U J q D K V;have a5:=I.2 5 (by decide);conv at a5=>rhs;whnf
     have a6:=I.2 6 (by decide);conv at a6=>rhs;whnf
     have a3:=I.2 3 (by decide);conv at a3=>rhs;whnf
     have a0:=I.2 0 (by decide);conv at a0=>rhs;whnf
     simp only[QN,QV]at D;clear q I;first
     | go_simp
       exact V _ _ BR rfl
     | have y0:=(U.cell (p:=⟨G,k,none⟩) af).trans ac
       have y1:G<W.heap.size:=Nat.lt_of_lt_of_le af J;go_simp
       exact V _ _ BR rfl
    ·intro A x W I U J q _ K V;have ay:=gv I q 4 15;clear q I;go_simp
     refine(qbi big W).mono ?_;rintro r w2 ⟨rfl,rfl⟩
     exact V _ _ BR rfl
    ·intro A x W I U J q _ K V;have az:=gv I q 3 14;have aA:=gv I q 6 17;clear q I;go_simp
     refine(qcU X (wB big) ad aq W).mono ?_;rintro r w2 ⟨u,rfl,ab,ap⟩
     exact V _ _ ap (ownsRow_le ab J)
   intro x W U J ag;obtain⟨ae, -⟩:=ag;change (fun u W=>W.ownsRow wr.heap.size 5 1 u (wB big) ((Qg X (wB big)).map qt)) (x 18) W at ae
   refine qp ?_;simp only[QA,Act.put,Ls];refine Qn rfl _ _ _ (by rfl) (w.alloc (.cells (qi .u64 h) 252)) (G+1) (by simp;omega) (Y.trans (U.mono am)) 5 i0 (.int .u8 0) 1 Tryz.underlying24 hi ar an ak rfl _ (wB big*k) ((qN (wB big) h k).map qt) (by rfl) (qk aa (fun g _ g2=>U.block g g2)) (x 18) (wB big) ((Qg X (wB big)).map qt) (by rfl) (qeU ae (by simp[qt,Value.oneCell'])) (by unfold maxLen;omega) (by omega) ?_;intro v' w' O ao;refine qp ?_;rw[←List.map_append,←al]at O;simp only[Act.put,Ls];go_wp2_with fail
   refine qv ?_;go_wp2_with fail
   exact⟨⟨k+1,v',rfl,rfl,by omega,O,ao⟩,by simp[intOf];omega⟩
  ·obtain rfl:k=8:=by omega
   go_wp2
   go_ret
   refine⟨_,rfl,ownsRow_le aa (by omega),?_⟩;rw[Z];exact aj.trans (Y.mono (by omega))
def bB (big:Bool):Nat:=cond big 128 64
def nB (big:Bool):Nat:=cond big 64 32
def wK (big:Bool):IntKind:=cond big .u64 .u32
theorem YB (big:Bool):0<bB big:=by cases big<;>decide
theorem qid (big:Bool): ∀z,(wK big).wrap z=z%2^nB big:=by
 cases big
 ·intro z;exact IntKind.wrap_u32 z
 ·intro z;exact IntKind.wrap_u64 z
def yq (big:Bool)(h bs:List Int)(lo:Int)(last node:Bool):List Int:=
 cond big (zK mixBig IVb 12 h (QU 8 16 bs) lo 0 last node) (zK mixSmall IVs 10 h (QU 4 16 bs) (lo%4294967296) (lo/4294967296) last node)
theorem QQ (big:Bool){h:List Int}(q:Words (nB big) 8 h)(G:List Int)(D:Int)(o node:Bool):Words (nB big) 8 (yq big h G D o node):=by
 cases big
 ·exact QL (k:= .u32) (N:=32) (fun z=>IntKind.wrap_u32 z) q 8
 ·exact QL (k:= .u64) (N:=64) (fun z=>IntKind.wrap_u64 z) q 8
def QC (n:Nat)(zs:List Int):List Int:=zs++List.replicate (n - zs.length) 0
theorem QI {n:Nat}{zs:List Int}(h:zs.length≤n):(QC n zs).length=n:=by simp[QC];omega
theorem qgA {n:Nat}{zs:List Int}(h:zs.length=n):QC n zs=zs:=by simp[QC,h]
theorem yd {n:Nat}{zs:List Int}(h: ∀z∈zs,0≤z∧z≤255): ∀z∈QC n zs,0≤z∧z≤255:=by
 intro z o;rcases List.mem_append.1 o with o|o
 ·exact h z o
 ·rw[List.eq_of_mem_replicate o];omega
def qac (n:Nat)(msg:List Int)(k:Nat):List Int:=QC n ((msg.drop (n*k)).take n)
theorem qhY {n:Nat}{o x:List Int}{k:Nat}(h:n*(k+1)≤o.length):qac n (o++x) k=qac n o k:=by
 have e:n*(k+1)=n*k+n:=Nat.mul_succ n k;unfold qac;rw[List.drop_append_of_le_length (by omega),List.take_append_of_le_length (by simp;omega)]
def stZ (big:Bool)(h0 msg:List Int):Nat→List Int
 | 0=>h0
 | k+1=>yq big (stZ big h0 msg k) (qac (bB big) msg k) ((bB big*(k+1):Nat):Int) false false
theorem yN (big:Bool){D:List Int}(q:Words (nB big) 8 D)(o:List Int): ∀k,Words (nB big) 8 (stZ big D o k)
 | 0=>q
 | k+1=>QQ big (yN big q o k) _ _ _ _
theorem qcL (big:Bool)(q:List Int){o x:List Int}: ∀{k:Nat},bB big*k≤o.length→stZ big q (o++x) k=stZ big q o k
 | 0,_=>rfl
 | k+1,h=>by
  have e:bB big*(k+1)=bB big*k+bB big:=Nat.mul_succ _ k;rw[stZ,stZ,qcL big q (k:=k) (by omega),qhY h]
def nbk (n len:Nat):Nat:=(len - 1)/n
theorem yY {n:Nat}(o:0<n)(len:Nat):n*nbk n len≤len∧len≤n*nbk n len+n∧(0<len→n*nbk n len<len):=by
 have D:=Nat.div_add_mod (len - 1) n;have q:=Nat.mod_lt (len - 1) o;unfold nbk;omega
theorem qhA {n len q:Nat}(G:n*q<len)(D:len≤n*q+n):nbk n len=q:=by
 unfold nbk;have o:q*n=n*q:=Nat.mul_comm _ _;have I:(q+1)*n=n*q+n:=by rw[Nat.succ_mul,o]
 exact Nat.div_eq_of_lt_le (by omega) (by omega)
theorem qd5 (n:Nat):nbk n 0=0:=by simp[nbk]
def Q8 (n:Nat)(msg:List Int):List Int:=msg.drop (n*nbk n msg.length)
theorem Y4 (n:Nat)(o:List Int):(Q8 n o).length=o.length - n*nbk n o.length:=by simp[Q8]
theorem Z3 {n:Nat}(q:0<n)(o:List Int):(Q8 n o).length≤n:=by
 rw[Y4];have:=yY q o.length;omega
theorem Y5 {n:Nat}{o:List Int}(h: ∀z∈o,0≤z∧z≤255): ∀z∈Q8 n o,0≤z∧z≤255:=fun z q=>h z (List.mem_of_mem_drop q)
theorem qab {n:Nat}(q:0<n)(o:List Int):qac n o (nbk n o.length)=QC n (Q8 n o):=by
 unfold qac;show QC n ((Q8 n o).take n)=_
 rw[List.take_of_length_le (Z3 q o)]
theorem qgM {n:Nat}(D:0<n){o x:List Int}(J:0<x.length)(G:(Q8 n o).length+x.length≤n):
  nbk n (o++x).length=nbk n o.length∧Q8 n (o++x)=Q8 n o++x:=by
 rw[Y4]at G;have I:=yY D o.length;have q:nbk n (o++x).length=nbk n o.length:=qhA (by simp;omega) (by simp;omega);refine⟨q,?_⟩;unfold Q8;rw[q,List.drop_append_of_le_length I.1]
theorem qgN {n:Nat}(G:0<n){o x:List Int}(O:0<x.length)(J:x.length≤n)(I:(Q8 n o).length=n):
  nbk n (o++x).length=nbk n o.length+1∧Q8 n (o++x)=x∧n*(nbk n o.length+1)=o.length:=by
 rw[Y4]at I;have V:=yY G o.length;have U:n*(nbk n o.length+1)=n*nbk n o.length+n:=Nat.mul_succ _ _;have D:n*(nbk n o.length+1)=o.length:=by omega
 have q:nbk n (o++x).length=nbk n o.length+1:=qhA (by simp;omega) (by simp;omega);refine⟨q,?_,D⟩;unfold Q8;rw[q,D,List.drop_left]
def qfN (big:Bool)(h0 msg H:List Int)(lo:Nat)(hl:List Int):Prop:=
 ∀x:List Int,0<x.length→hl.length+x.length≤bB big→stZ big h0 (msg++x) (nbk (bB big) (msg++x).length)=H∧bB big*nbk (bB big) (msg++x).length=lo∧Q8 (bB big) (msg++x)=hl++x
theorem qcr (big:Bool)(q o:List Int):qfN big q o (stZ big q o (nbk (bB big) o.length)) (bB big*nbk (bB big) o.length) (Q8 (bB big) o):=by
 intro x G I;obtain⟨J,D⟩:=qgM (YB big) G I;rw[J,D];exact⟨qcL big q (yY (YB big) _).1,rfl,rfl⟩
theorem qcs (big:Bool)(q o:List Int)(D:(Q8 (bB big) o).length=bB big):
  qfN big q o (yq big (stZ big q o (nbk (bB big) o.length)) (Q8 (bB big) o) ((bB big*nbk (bB big) o.length+bB big:Nat):Int) false false) (bB big*nbk (bB big) o.length+bB big) []:=by
 intro x I J;obtain⟨O,G,U⟩:=qgN (YB big) I (by simpa using J) D;have e:bB big*(nbk (bB big) o.length+1)=bB big*nbk (bB big) o.length+bB big:=Nat.mul_succ _ _;rw[O,G];refine⟨?_,e,rfl⟩;rw[qcL big q (by omega),stZ,qab (YB big),qgA D,e]
theorem JF {n:Nat}(q:0<n)(o:List Int):n*nbk n o.length+(Q8 n o).length=o.length:=by
 rw[Y4];have:=yY q o.length;omega
def zc (big:Bool)(h0 msg:List Int)(node:Bool):List Int:=
 qN (wB big) (yq big (stZ big h0 msg (nbk (bB big) msg.length)) (qac (bB big) msg (nbk (bB big) msg.length)) (msg.length:Int) true node) 8
theorem zz (big:Bool)(q o:List Int)(node:Bool):(zc big q o node).length=mB big:=by
 unfold zc;rw[jP];cases big<;>rfl
theorem qd2 (big:Bool)(q o:List Int)(node:Bool): ∀z∈zc big q o node,0≤z∧z≤255:=jQ _ _ _
def h0Z (big:Bool)(block:List Int):List Int:=ym (wK big) (cond big IVb IVs) (wB big) block
theorem QS (big:Bool)(o:List Int):Words (nB big) 8 (h0Z big o):=Yp (qid big) _ _ _
def yk (n:Nat)(key:List Int):List Int:=if key.length=0 then [] else QC n key
theorem YT {n:Nat}{key:List Int}(h: ∀z∈key,0≤z∧z≤255): ∀z∈yk n key,0≤z∧z≤255:=by
 unfold yk;split
 ·intro z o;cases o
 ·exact yd h
theorem YS {n:Nat}{key:List Int}(h:key.length≤n):(yk n key).length≤n:=by
 unfold yk;split
 ·simp
 ·rw[QI h];exact Nat.le_refl _
end Go.Proofs.YthjoojnlnlmljaaGreat
