/- Lemmas. No condition. -/
import Derived.Test.YtahenngmaoellaaGreatO26
import Derived.Test.YtahenngmaoellaaGreatO27
set_option linter.all false
set_option maxRecDepth 100000
set_option maxHeartbeats 0
namespace Go.Proofs.YtahenngmaoellaaGreat
open Go.ChangeShapes Go.WideShapes Go.ChangeAt Go.RowKit Go.Joins Go.Shelf Go.Maps
open Go.Lib (hid)
attribute [local go_sem] Oper.semAt_some
def okD (big ext:Bool)(zs:List Int):Prop:=zs.length=mB big/\(big=true-> ∀i,18<=i->i<32->qo zs i=0)/\(ext=true->xoZ big ext zs≠0)/\okC big (qo zs 0) (qo zs 1) (qo zs 3) (xoZ big ext zs) (qo zs (atB big 9))
theorem qdu (big:Bool)(zs:List Int)(v:Value)(w:World)(h:Holds8 w v zs)(X: ∀z∈zs,0<=z/\z<=255)(I: ∀a n c,v= .slice a n c->n<=c/\(c:Int)<=9223372036854775807)(Y:okD big false zs):
  Calls Tryz.prog 106 #[.int .i64 (kB big),v,.bool false] w fun e w'=>(∃fo dp lf S nd O V U,e= .returned (.tuple #[parV (qo zs 0) (qo zs 1) fo dp lf S 0 nd O V U,.int .i64 0])/\V.oneCell'=true/\U.oneCell'=true)/\Below w.heap.size w w':=by
 obtain⟨a,D,rfl,h⟩:=h;obtain⟨r,hm, -,k0,k1,Z,k9⟩:=Y;obtain⟨b,off,rfl,J⟩:=h.resolve_left (fun e=>by rw[e]at r;cases big<;>simp[mB]at r);obtain⟨q,G⟩:=I _ _ _ rfl
 cases big
 ·have o:zs.length=32:=r;rw[o]at q⊢;exact JN zs b off D w J X q G o k0 k1.2 (Z rfl) k9.2
 ·have o:zs.length=64:=r;rw[o]at q⊢;exact qaf zs b off D w J X q G o (hm rfl) k0 k1.2 (Z rfl) k9.2
end Go.Proofs.YtahenngmaoellaaGreat
namespace Go.Proofs.YtahenngmaoellaaGreat
open Go.ChangeShapes Go.WideShapes Go.ChangeAt Go.RowKit Go.Joins Go.Shelf Go.Maps
open Go.Lib (hid)
def szE (big ext:Bool)(f:Nat):Nat:=if f=6/\ext=true then 4 else szB big f
theorem yh (big ext:Bool)(f:Nat)(o:1<=f)(q:f<=9):1<=szE big ext f/\szE big ext f<=8/\atB big f+szE big ext f<=18/\(big=false->atB big f+szE big ext f<=16):=by
 have h:f=1\/f=2\/f=3\/f=4\/f=5\/f=6\/f=7\/f=8\/f=9:=by omega
 rcases h with rfl|rfl|rfl|rfl|rfl|rfl|rfl|rfl|rfl<;>cases big<;>cases ext<;>decide
def yp (big ext:Bool)(zs:List Int)(f:Nat):Int:=if f=0 then 0 else qO zs (atB big f) (szE big ext f)
def JM (big ext:Bool)(zs:List Int):Nat->List Value
 | 0=>[]
 | k+1=>JM big ext zs k++[.int .u64 (yp big ext zs k)]
theorem Zw (big ext:Bool)(zs:List Int): ∀k,(JM big ext zs k).length=k
 | 0=>rfl
 | k+1=>by simp[JM,Zw big ext zs k]
theorem QK (big ext:Bool)(zs:List Int): ∀k j,j<k->(JM big ext zs k)[j]? =some (.int .u64 (yp big ext zs j))
 | 0,j,h=>by omega
 | k+1,j,h=>by
  rw[JM];by_cases e:j=k
  ·subst e;rw[List.getElem?_append_right (by rw[Zw];exact Nat.le_refl _),Zw];simp
  ·rw[List.getElem?_append_left (by rw[Zw];omega)];exact QK big ext zs k j (by omega)
theorem qY {big ext:Bool}{zs:List Int}(r: ∀z∈zs,0<=z/\z<=255)(D:zs.length=mB big){f:Nat}(o:1<=f)(q:f<=9):0<=yp big ext zs f/\yp big ext zs f<2^(8*szE big ext f):=by
 unfold yp;rw[if_neg (by omega)];have:=yh big ext f o q
 have G:32<=mB big:=by cases big<;>decide
 exact Qz r _ (by omega)
theorem zQ (zs:List Int)(a:Nat):qO zs a 1=qo zs a:=by simp[qO]
theorem qke {W:World}{B:Nat}{v:Value}{xs:List Value}(h:W.ownsRow B 44 1 v 10 xs): ∃g q o,v= .slice (some ⟨g,0,none⟩) 10 q/\B<=g/\W.heap[g]? =some (.cells o 44 (0,0))/\10<=o.size/\ ∀j,j<10->o[j]? =xs[j]? :=by
 rcases h.2 with⟨-,r⟩|⟨g,q,o,rfl,D,G,O,U,J,I⟩
 ·cases r
 ·refine⟨g,q,o,rfl,D,G,by omega,fun j S=>?_⟩;rw[<-I,List.getElem?_take,if_pos (by omega),Array.getElem?_toList]
attribute [local go_sem] Oper.semAt_some
theorem jC (zs:List Int)(b off o:Nat)(w:World)(hB:Qy w b off zs)(hz: ∀z∈zs,0<=z/\z<=255)(ca:64<=o)(b9:(o:Int)<=9223372036854775807)(hl:zs.length=64)(bA: ∀i,18<=i->i<32->qo zs i=0)(bQ:1<=qo zs 0/\qo zs 0<=64)(af:qo zs 1<=64)(b7:1<=qo zs 3)(b8:qo zs 17<=64):
  Calls Tryz.prog 158 #[.int .i64 1,.slice (some ⟨b,off,none⟩) 64 o,.bool false] w fun e w'=>(∃sa pe,e= .returned (.tuple #[parV (qo zs 0) (qo zs 1) (qo zs 2) (qo zs 3) (qO zs 4 4) (qO zs 8 8) 0 (qo zs 16) (qo zs 17) sa pe,.int .i64 0])/\w'.ownsRow w.heap.size 5 1 sa (Qp ((zs.drop 32).take 16) 16) ((((zs.drop 32).take 16).take (Qp ((zs.drop 32).take 16) 16)).map qp)/\w'.ownsRow w.heap.size 5 1 pe (Qp ((zs.drop 48).take 16) 16) ((((zs.drop 48).take 16).take (Qp ((zs.drop 48).take 16) 16)).map qp))/\Below w.heap.size w w':=by
 obtain⟨h1,h2⟩:=id hB;have HC:=hid h2;have HB:=hid hB;clear h2 hB;obtain⟨i0,hi,bb,bd,ba⟩:=info_parts qch;obtain⟨Z,ay⟩:=Ex (yp true false zs 1);have cv:0<=Z/\Z<256:=by have:=qY (big:=true) (ext:=false) hz hl (f:=1) (by omega) (by omega);rw[ay]at this;simpa [szE,szB] using this
 have aU:qo zs 0=Z:=by rw[<-ay];simp[yp,szE,szB,atB,zQ]
 rw[aU]at bQ;try rw[aU]
 obtain⟨S,aD⟩:=Ex (yp true false zs 2);have cA:0<=S/\S<256:=by have:=qY (big:=true) (ext:=false) hz hl (f:=2) (by omega) (by omega);rw[aD]at this;simpa [szE,szB] using this
 have aX:qo zs 1=S:=by rw[<-aD];simp[yp,szE,szB,atB,zQ]
 rw[aX]at af;try rw[aX]
 obtain⟨X,ax⟩:=Ex (yp true false zs 3);have cm:0<=X/\X<256:=by have:=qY (big:=true) (ext:=false) hz hl (f:=3) (by omega) (by omega);rw[ax]at this;simpa [szE,szB] using this
 have bo:qo zs 2=X:=by rw[<-ax];simp[yp,szE,szB,atB,zQ]
 try rw[bo]
 obtain⟨Y,au⟩:=Ex (yp true false zs 4);have cn:0<=Y/\Y<256:=by have:=qY (big:=true) (ext:=false) hz hl (f:=4) (by omega) (by omega);rw[au]at this;simpa [szE,szB] using this
 have aY:qo zs 3=Y:=by rw[<-au];simp[yp,szE,szB,atB,zQ]
 rw[aY]at b7;try rw[aY]
 obtain⟨V,aC⟩:=Ex (yp true false zs 5);have co:0<=V/\V<4294967296:=by have:=qY (big:=true) (ext:=false) hz hl (f:=5) (by omega) (by omega);rw[aC]at this;simpa [szE,szB] using this
 have bg:qO zs 4 4=V:=by rw[<-aC];simp[yp,szE,szB,atB,zQ]
 try rw[bg]
 obtain⟨V6,aw⟩:=Ex (yp true false zs 6);have cx:0<=V6/\V6<18446744073709551616:=by have:=qY (big:=true) (ext:=false) hz hl (f:=6) (by omega) (by omega);rw[aw]at this;simpa [szE,szB] using this
 have a9:qO zs 8 8=V6:=by rw[<-aw];simp[yp,szE,szB,atB,zQ]
 try rw[a9]
 obtain⟨V7,az⟩:=Ex (yp true false zs 7);have ct:0<=V7/\V7<4294967296:=by have:=qY (big:=true) (ext:=false) hz hl (f:=7) (by omega) (by omega);rw[az]at this;simpa [szE,szB] using this
 have bv:qO zs 12 4=V7:=by rw[<-az];simp[yp,szE,szB,atB,zQ]
 try rw[bv]
 obtain⟨V8,aB⟩:=Ex (yp true false zs 8);have cp:0<=V8/\V8<256:=by have:=qY (big:=true) (ext:=false) hz hl (f:=8) (by omega) (by omega);rw[aB]at this;simpa [szE,szB] using this
 have bm:qo zs 16=V8:=by rw[<-aB];simp[yp,szE,szB,atB,zQ]
 try rw[bm]
 obtain⟨U,ar⟩:=Ex (yp true false zs 9);have cf:0<=U/\U<256:=by have:=qY (big:=true) (ext:=false) hz hl (f:=9) (by omega) (by omega);rw[ar]at this;simpa [szE,szB] using this
 have aQ:qo zs 17=U:=by rw[<-ar];simp[yp,szE,szB,atB,zQ]
 rw[aQ]at b8;try rw[aQ]
 have hs: ∀w:World,Calls Tryz.prog 173 #[.int .i64 1] w fun e w'=>e= .returned (.int .i64 64)/\w'=w:=YM true
 obtain⟨G,ak⟩:=Ex w.heap.size;have aI:b<G:=by rw[<-ak];exact h1
 have bl: ∀W,Below G w W->Holds8 W (.slice (some ⟨b,off,none⟩) 64 o) zs:=fun W hW=>⟨some ⟨b,off,none⟩,o,by rw[hl],.inr ⟨b,off,rfl,Nat.lt_of_lt_of_le h1 hW.size,fun i hi=>(hW.cell (p:=⟨b,off+i,none⟩) aI).trans (HC.out i hi)⟩⟩
 have bf:=hid bl;clear bl;have av:Below G w (w.alloc (.cells Kb 179)):=by rw[<-ak];exact Br.alloc Nl _
 have aR:=Wn w (.cells Kb 179);rw[ak]at aR;have bp:(w.alloc (.cells Kb 179)).heap.size=G+1:=by simp[ak]
 go_enter Tryz.func158,Tryz.ntmps158
 go_wp2_with fail
 refine(qc3 true _ _ _ _).mono ?_;rintro e w1 ⟨⟨x,rfl,hx⟩,hw⟩;rw[hw];clear hw;obtain rfl:x=0:=hx.2 rfl;clear hx;generalize w.alloc (.cells Kb 179)=w2 at*;have HR:=hid aR;clear aR;go_wp2_with fail
 go_loopw [9] (fun i wr=> ∃k:Nat,i= .int .i64 k/\18<=k/\k<=32/\w2=wr) (fun i _=>32 - (intOf i).toNat)
 case atStart=>exact⟨18,rfl,by omega,by omega,rfl⟩
 case round=>
  obtain⟨k,rfl,af,bh,rfl⟩:=hrel;by_cases ap:k<32
  ·have hc:=(av.cell (p:=⟨b,off+k,none⟩) aI).trans (HC.out k (by omega));rw[bA k af ap]at hc;have k3:(k:Int)<64:=by omega
   have k4:0<=(k:Int):=by omega
   go_wp2
   exact⟨⟨k+1,rfl,by omega,by omega,by trivial⟩,by simp[intOf];omega⟩
  ·obtain rfl:k=32:=by omega
   go_wp2_with fail
   have aE:(w2.alloc (.cells #[.int .u64 0] 44)).ownsRow (G+1) 44 1 (.slice (some ⟨G+1,0,none⟩) 1 1) 1 (JM true false zs 1):=by have:=World.ownsRow_lit (base:=G+1) (e:=44) (size:=1) w2 #[.int .u64 0] 1 (by omega) (by decide) rfl;rwa[bp]at this
   have aV:Below (G+1) w2 (w2.alloc (.cells #[.int .u64 0] 44)):=Br.alloc (by omega) _;go_loopw [10,11] (fun v f wr=> ∃(k:Nat),f= .int .i64 k/\1<=k/\k<=10/\wr.ownsRow (G+1) 44 1 v k (JM true false zs k)/\Below (G+1) w2 wr) (fun _ i _=>10 - (intOf i).toNat)
   case atStart=>exact⟨1,rfl,by omega,by omega,aE,aV⟩
   case round=>
    clear aE aV;obtain⟨f,rfl,af,bh,ad,hb⟩:=hrel;have bX:=hb.size;by_cases ap:f<=9
    ·have be:=yh true false f af ap;have bn:yp true false zs f=qO zs (atB true f) (szE true false f):=if_neg (by omega);have e1:=hid (show JM true false zs (f+1)=JM true false zs f++[.int .u64 (qO zs (atB true f) (szE true false f))] by rw[JM,bn]);have k5:(f:Int)<=9:=by omega
     have aG:=hid (Jd true f ⟨af,ap⟩);obtain⟨al,aj⟩:=Ex (atB true f);obtain⟨bk,aq⟩:=Ex (szB true f);obtain⟨ag,ah⟩:=Ex (szE true false f);have br:=hid ah;have bc:=hid aq;rw[aj,ah]at e1;rw[aj,aq]at aG;rw[aj,ah]at be;clear bn aj aq ah;obtain⟨j1,j2,j3,j4⟩:=be;have j5:al+ag<=zs.length:=by omega
     clear j4;have a7:Below G w wr:=av.trans (hb.mono (by omega));by_cases aP:f=6
     case pos=>
      subst aP;go_wp2_with fail
      refine(aG.out _).mono ?_;rintro r w4 ⟨rfl,hw⟩;rw[hw];clear hw;obtain rfl:ag=bk:=by rw[<-br.out,<-bc.out];simp[szE]
      go_wp2_with fail
      refine(ZZ zs _ al ag _ (bf.out _ a7) hz (by omega) (by omega) (by omega)).mono ?_;rintro r w5 ⟨rfl,hw⟩;rw[hw];clear hw;go_wp2_with (at_builtin;refine wpList_append_own _ rfl _ _ 109 rfl (G+1) 44 i0 (.int .u64 0) 1 8 Tryz.underlying109 hi bb bd ba rfl (by decide) _ _ _ rfl (ad.alloc _) ⟨wr.heap.size,0,none⟩ 1 1 [.int .u64 (qO zs al ag)] rfl rfl (cell_one_new _ _ _) (by simp[Value.oneCell']) (by unfold maxLen;omega) (by omega) (by simp;omega) ?_;intro v' w6 ac ai _;have ae:Below (G+1) w2 w6:=(hb.alloc (by omega) _).grown ai (by simp;omega) (fun k e=>(ad.lt k e).1))
      rw[<-e1.out]at ac;refine⟨⟨_,_,_,_,_,_,_,_,_,_,_,_,_,_,_,_,_,_,_,_,_,_,_,_,_,_,⟨7,rfl,by omega,by omega,ac,ae⟩,rfl⟩,?_⟩;first|(simp[intOf];done)|(simp[intOf];omega)
     case neg=>
      go_wp2_with fail
      refine(aG.out _).mono ?_;rintro r w4 ⟨rfl,hw⟩;rw[hw];clear hw;obtain rfl:ag=bk:=by rw[<-br.out,<-bc.out];simp[szE,aP]
      have cj: ¬((f:Int)=6):=by omega
      have cb: ¬(f=6):=aP;go_wp2_with fail
      refine(ZZ zs _ al ag _ (bf.out _ a7) hz (by omega) (by omega) (by omega)).mono ?_;rintro r w5 ⟨rfl,hw⟩;rw[hw];clear hw;go_wp2_with (at_builtin;refine wpList_append_own _ rfl _ _ 109 rfl (G+1) 44 i0 (.int .u64 0) 1 8 Tryz.underlying109 hi bb bd ba rfl (by decide) _ _ _ rfl (ad.alloc _) ⟨wr.heap.size,0,none⟩ 1 1 [.int .u64 (qO zs al ag)] rfl rfl (cell_one_new _ _ _) (by simp[Value.oneCell']) (by unfold maxLen;omega) (by omega) (by simp;omega) ?_;intro v' w6 ac ai _;have ae:Below (G+1) w2 w6:=(hb.alloc (by omega) _).grown ai (by simp;omega) (fun k e=>(ad.lt k e).1))
      rw[<-e1.out]at ac;refine⟨⟨_,_,_,_,_,_,_,_,_,_,_,_,_,_,_,_,_,_,_,_,_,_,_,_,_,_,⟨f+1,rfl,by omega,by omega,ac,ae⟩,rfl⟩,?_⟩;first|(simp[intOf];done)|(simp[intOf];omega)
    ·obtain rfl:f=10:=by omega
     obtain⟨g,cg,I,rfl,cl,an,bN,ab⟩:=qke ad;have aZ:=hid an;have aO:I[1]? =some (.int .u64 Z):=by rw[ab 1 (by omega),QK _ _ _ _ _ (by omega),ay]
     have aS:I[2]? =some (.int .u64 S):=by rw[ab 2 (by omega),QK _ _ _ _ _ (by omega),aD]
     have aM:I[3]? =some (.int .u64 X):=by rw[ab 3 (by omega),QK _ _ _ _ _ (by omega),ax]
     have aT:I[4]? =some (.int .u64 Y):=by rw[ab 4 (by omega),QK _ _ _ _ _ (by omega),au]
     have aH:I[5]? =some (.int .u64 V):=by rw[ab 5 (by omega),QK _ _ _ _ _ (by omega),aC]
     have a6:I[6]? =some (.int .u64 V6):=by rw[ab 6 (by omega),QK _ _ _ _ _ (by omega),aw]
     have aN:I[7]? =some (.int .u64 V7):=by rw[ab 7 (by omega),QK _ _ _ _ _ (by omega),az]
     have aJ:I[8]? =some (.int .u64 V8):=by rw[ab 8 (by omega),QK _ _ _ _ _ (by omega),aB]
     have aW:I[9]? =some (.int .u64 U):=by rw[ab 9 (by omega),QK _ _ _ _ _ (by omega),ar]
     have aa:g<wr.heap.size:=(Ai an).1;have c7:=(qd an 7).trans aN;have f7:=frozen_of_row wr g 7 _ _ an;have bq:Below G w wr:=av.trans (hb.mono (by omega));have aA:wr.heap[G]? =some (.cells Kb 179 (0,0)):=(hb.block G (by omega)).trans HR.out;clear ab ad HR hb ap af bh an bp av ay aU aD aX ax bo au aY aC bg aw a9 az bv aB bm ar aQ;go_upto_region 21 with(fail)
     have J:=heap_setCell_same wr g 7 _ _ (.int .u64 0) aZ.out;have bP:=hid ((qd J 1).trans (show(I.setIfInBounds 7 (.int .u64 0))[1]? =some (.int .u64 (Z)) by rw[Array.getElem?_setIfInBounds];simpa using aO));have bO:=hid ((qd J 2).trans (show(I.setIfInBounds 7 (.int .u64 0))[2]? =some (.int .u64 (S)) by rw[Array.getElem?_setIfInBounds];simpa using aS));have bL:=hid ((qd J 3).trans (show(I.setIfInBounds 7 (.int .u64 0))[3]? =some (.int .u64 (X)) by rw[Array.getElem?_setIfInBounds];simpa using aM));have bT:=hid ((qd J 4).trans (show(I.setIfInBounds 7 (.int .u64 0))[4]? =some (.int .u64 (Y)) by rw[Array.getElem?_setIfInBounds];simpa using aT));have bJ:=hid ((qd J 5).trans (show(I.setIfInBounds 7 (.int .u64 0))[5]? =some (.int .u64 (V)) by rw[Array.getElem?_setIfInBounds];simpa using aH));have bY:=hid ((qd J 6).trans (show(I.setIfInBounds 7 (.int .u64 0))[6]? =some (.int .u64 (V6)) by rw[Array.getElem?_setIfInBounds];simpa using a6));have b4:=hid ((qd J 7).trans (show(I.setIfInBounds 7 (.int .u64 0))[7]? =some (.int .u64 (0)) by rw[Array.getElem?_setIfInBounds];simp;omega));have bH:=hid ((qd J 8).trans (show(I.setIfInBounds 7 (.int .u64 0))[8]? =some (.int .u64 (V8)) by rw[Array.getElem?_setIfInBounds];simpa using aJ));have bG:=hid ((qd J 9).trans (show(I.setIfInBounds 7 (.int .u64 0))[9]? =some (.int .u64 (U)) by rw[Array.getElem?_setIfInBounds];simpa using aW));have bR:Below G w (wr.setCell ⟨g,7,none⟩ (.int .u64 0)):=bq.setCell (by show G<=g;omega) _;have bt:(wr.setCell ⟨g,7,none⟩ (.int .u64 0)).heap[G]? =some (.cells Kb 179 (0,0)):=(heap_setCell_other wr _ _ _ (by show G≠g;omega)).trans aA;have aL:(wr.setCell ⟨g,7,none⟩ (.int .u64 0)).heap.size=wr.heap.size:=by simp[World.setCell]
     rw[<-aL]at aa bX;clear bq aZ J aL c7 f7 aA;generalize wr.setCell ⟨g,7,none⟩ (.int .u64 0)=W8 at*;have aA:=bt;clear bt;clear aO aS aM aT aH a6 aN aJ aW bN;go_wp2_with fail
     refine(hs _).mono ?_;rintro r w9 ⟨rfl,hw⟩;rw[hw];clear hw;go_upto_region 22 with(fail)
     refine qE (n:=49) (w0:=W8) (B:=W8.heap.size) [.v 72 (.slice (some ⟨g,0,none⟩) 10 cg),.z 73 g 1,.v 74 (.int .u64 Z),.v 75 (.int .i64 Z),.v 76 (.slice (some ⟨g,0,none⟩) 10 cg),.z 77 g 2,.v 78 (.int .u64 S),.v 79 (.int .i64 S),.v 80 (.slice (some ⟨g,0,none⟩) 10 cg),.z 81 g 3,.v 82 (.int .u64 X),.v 83 (.int .i64 X),.v 84 (.slice (some ⟨g,0,none⟩) 10 cg),.z 85 g 4,.v 86 (.int .u64 Y),.v 87 (.int .i64 Y),.v 88 (.slice (some ⟨g,0,none⟩) 10 cg),.z 89 g 5,.v 90 (.int .u64 V),.v 91 (.int .u32 V),.v 92 (.slice (some ⟨g,0,none⟩) 10 cg),.z 93 g 6,.v 94 (.int .u64 V6),.v 95 (.slice (some ⟨g,0,none⟩) 10 cg),.z 96 g 7,.v 97 (.int .u64 0),.v 98 (.int .u32 0),.v 99 (.slice (some ⟨g,0,none⟩) 10 cg),.z 100 g 8,.v 101 (.int .u64 V8),.v 102 (.int .i64 V8),.v 103 (.slice (some ⟨g,0,none⟩) 10 cg),.z 104 g 9,.v 105 (.int .u64 U),.v 106 (.int .i64 U),.v 107 (.slice (some ⟨b,off,none⟩) 64 o),.v 108 (.int .i64 16),.v 109 (.int .i64 32),.v 110 (.int .i64 16),.v 111 (.int .i64 48),.v 112 (.slice (some ⟨b,off+32,none⟩) 16 (o - 32)),.v 113 (.slice (some ⟨b,off,none⟩) 64 o),.v 114 (.int .i64 16),.v 115 (.int .i64 48),.v 116 (.int .i64 16),.v 117 (.int .i64 64),.v 118 (.slice (some ⟨b,off+48,none⟩) 16 (o - 48)),.v 119 (.agg #[.int .i64 Z,.int .i64 S,.int .i64 X,.int .i64 Y,.int .u32 V,.int .u64 V6,.int .u32 0,.int .i64 V8,.int .i64 U,.slice (some ⟨b,off+32,none⟩) 16 (o - 32),.slice (some ⟨b,off+48,none⟩) 16 (o - 48)]),.p 15 (fun u W=> ∃p,u= .pointer (some ⟨p,0,none⟩)/\W8.heap.size<=p/\W.heap[p]? =some (.cells Kb 179 (0,0)))] (by exact⟨(fun _ _ _ h hb=>by obtain⟨p,e,h3,h4⟩:=h;exact⟨p,e,h3,qf h4 hb⟩),trivial⟩) Br.drew Nl ?_ ?_
     ·repeat' (with_reducible first|exact qz|refine qx ?_ ?_)
      all_goals try
       intro A x W O hW am q D K hK;have bK:=O.2 10 (by decide);conv at bK=>rhs;whnf
       have a1:=O.2 1 (by decide);conv at a1=>rhs;whnf
       have bS:=O.2 14 (by decide);conv at bS=>rhs;whnf
       simp only[QS,yc]at D;clear q O;first
       | go_simp
         exact hK _ _ BR rfl
       | have y0:=(hW.cell (p:=⟨g,1,none⟩) aa).trans bP.out
         have y1:g<W.heap.size:=by omega
         have y2:IntKind.i64.wrap Z=Z:=by rw[IntKind.wrap_i64];omega
         have y3:=(hW.cell (p:=⟨g,2,none⟩) aa).trans bO.out;have y4:IntKind.i64.wrap S=S:=by rw[IntKind.wrap_i64];omega
         have y5:=(hW.cell (p:=⟨g,3,none⟩) aa).trans bL.out;have y6:IntKind.i64.wrap X=X:=by rw[IntKind.wrap_i64];omega
         have y7:=(hW.cell (p:=⟨g,4,none⟩) aa).trans bT.out;have y8:IntKind.i64.wrap Y=Y:=by rw[IntKind.wrap_i64];omega
         have y9:=(hW.cell (p:=⟨g,5,none⟩) aa).trans bJ.out;have cz:IntKind.u32.wrap V=V:=u32_wrap_id _ (by omega) (by omega);have ce:=(hW.cell (p:=⟨g,6,none⟩) aa).trans bY.out;have cd:=(hW.cell (p:=⟨g,7,none⟩) aa).trans b4.out;have cu:=(hW.cell (p:=⟨g,8,none⟩) aa).trans bH.out;have cy:IntKind.i64.wrap V8=V8:=by rw[IntKind.wrap_i64];omega
         have ck:=(hW.cell (p:=⟨g,9,none⟩) aa).trans bG.out;have ch:IntKind.i64.wrap U=U:=by rw[IntKind.wrap_i64];omega
         have cq: ¬o=32:=by omega
         have cw: ¬o=48:=by omega
         have cr:64<=(o:Int):=by omega
         have cc:48<=(o:Int):=by omega
         go_simp
         exact hK _ _ BR rfl
      ·intro A x W O hW am q _ K hK;have b6:=gv O q 3 75;have bF:=gv O q 7 79;have bW:=gv O q 11 83;have bI:=gv O q 15 87;have bV:=gv O q 19 91;have bM:=gv O q 22 94;have b3:=gv O q 26 98;have bx:=gv O q 30 102;have bD:=gv O q 34 106;have bE:=gv O q 40 112;have bz:=gv O q 46 118;clear q O;refine Zl 179 _ rfl #[.int .i64 Z,.int .i64 S,.int .i64 X,.int .i64 Y,.int .u32 V,.int .u64 V6,.int .u32 0,.int .i64 V8,.int .i64 U,.slice (some ⟨b,off+32,none⟩) 16 (o - 32),.slice (some ⟨b,off+48,none⟩) 16 (o - 48)] ?_ (hK _ _ Br rfl);simp only[List.map_toArray,List.map_cons,List.map_nil,Act.eval,b6,bF,bW,bI,bV,bM,b3,bx,bD,bE,bz];kernel_rfl
      ·intro A x W O hW am q _ K hK;clear q O;go_simp
       exact hK _ _ (Br.alloc Nl _) ⟨W.heap.size,rfl,am,Wn W _⟩
     intro x W hW am bC;obtain⟨bw, -⟩:=bC;change (fun u W=> ∃p,u= .pointer (some ⟨p,0,none⟩)/\W8.heap.size<=p/\W.heap[p]? =some (.cells Kb 179 (0,0))) (x 15) W at bw
     obtain⟨p,ep,b5,a4⟩:=bw;refine qt ?_;simp only[QG,Act.put,Ls,ep];refine wpList_store_row rfl 179 _ _ rfl p #[.int .i64 Z,.int .i64 S,.int .i64 X,.int .i64 Y,.int .u32 V,.int .u64 V6,.int .u32 0,.int .i64 V8,.int .i64 U,.slice (some ⟨b,off+32,none⟩) 16 (o - 32),.slice (some ⟨b,off+48,none⟩) 16 (o - 48)] rfl rfl 179 _ a4 (by kernel_rfl) rfl (by simp[Value.oneCell']) ?_;refine qw ?_;have ao:Below W8.heap.size W8 (W.setRow p #[.int .i64 Z,.int .i64 S,.int .i64 X,.int .i64 Y,.int .u32 V,.int .u64 V6,.int .u32 0,.int .i64 V8,.int .i64 U,.slice (some ⟨b,off+32,none⟩) 16 (o - 32),.slice (some ⟨b,off+48,none⟩) 16 (o - 48)]):=below_setRow hW b5 _;have bs:=setRow_heap W p _ #[.int .i64 Z,.int .i64 S,.int .i64 X,.int .i64 Y,.int .u32 V,.int .u64 V6,.int .u32 0,.int .i64 V8,.int .i64 U,.slice (some ⟨b,off+32,none⟩) 16 (o - 32),.slice (some ⟨b,off+48,none⟩) 16 (o - 48)] _ _ a4;generalize W.setRow p #[.int .i64 Z,.int .i64 S,.int .i64 X,.int .i64 Y,.int .u32 V,.int .u64 V6,.int .u32 0,.int .i64 V8,.int .i64 U,.slice (some ⟨b,off+32,none⟩) 16 (o - 32),.slice (some ⟨b,off+48,none⟩) 16 (o - 48)]=W3 at ao bs⊢;clear ep a4 hW am x W;have ci:=ao.size;have ae:Below G w W3:=bR.trans (ao.mono (by omega));have bZ:W3.heap[G]? =some (.cells Kb 179 (0,0)):=(ao.block G (by omega)).trans aA;have aF:Qy W3 b off zs:=⟨Nat.lt_of_lt_of_le h1 ae.size,fun i hi=>(ae.cell (p:=⟨b,off+i,none⟩) aI).trans (HC.out i hi)⟩;have aK:=J0 true Z S X Y V V6 V8 U ((zs.drop 32).take 16) ((zs.drop 48).take 16) b (off+32) (o - 32) b (off+48) (o - 48) W3 (zG aF (by omega)) (zG aF (by omega)) (by rw[QC (by omega)];omega) (by rw[QC (by omega)];omega) (by rw[QC (by omega)];decide) (by rw[QC (by omega)];decide) ⟨by simp only[mB,cond];omega,by simp only[mB,cond];omega,by omega,by omega,⟨by omega,fun h=>by cases h⟩,by omega,by simp only[mB,cond];omega⟩;rw[QC (by omega),QC (by omega)]at aK;have bj:=hid aK;clear aK aF ao;go_wp2_with (refine L179 p rfl bs ?_)
     refine bj.out.mono ?_;rintro r w7 ⟨⟨sa,pe,rfl,os,op⟩,bi⟩;clear bj;have bu:=qf bZ bi;have bU:Below G w w7:=ae.trans (bi.mono (by omega));obtain⟨a5,n5,k5,rfl⟩:=qr os;obtain⟨a8,n8,k8,rfl⟩:=qr op;unfold parV;go_wp2_with ((with_reducible show wpList _ _ _ (Oper.mk _ (Op.store 179 _ _) _ _ _ _::_) _ _);refine wpList_store_row rfl 179 _ _ rfl G #[.int .i64 Z,.int .i64 S,.int .i64 X,.int .i64 Y,.int .u32 V,.int .u64 V6,.int .u32 0,.int .i64 V8,.int .i64 U,.slice a5 n5 k5,.slice a8 n8 k8] rfl rfl 179 _ bu (by kernel_rfl) rfl (by simp[Value.oneCell']) ?_)
     have a3: ∀{v:Value} {n:Nat} {xs:List Value},w7.ownsRow W3.heap.size 5 1 v n xs->(w7.setRow G #[.int .i64 Z,.int .i64 S,.int .i64 X,.int .i64 Y,.int .u32 V,.int .u64 V6,.int .u32 0,.int .i64 V8,.int .i64 U,.slice a5 n5 k5,.slice a8 n8 k8]).ownsRow w.heap.size 5 1 v n xs:=fun h=>ownsRow_le (qi h (fun g g1 _=>setRow_other _ _ _ _ (by omega))) (by omega)
     exact Bp (qI rfl _ _ G _ _ _ _ rfl (setRow_heap _ G _ _ _ _ bu) Tryz.underlying179 rfl (by kernel_rfl)) rfl ⟨⟨_,_,rfl,a3 os,a3 op⟩,by rw[ak];exact below_setRow bU Nl _⟩
theorem jf (zs:List Int)(b off o:Nat)(w:World)(hB:Qy w b off zs)(hz: ∀z∈zs,0<=z/\z<=255)(b9:32<=o)(b8:(o:Int)<=9223372036854775807)(hl:zs.length=32)(bO:1<=qo zs 0/\qo zs 0<=32)(ak:qo zs 1<=32)(b6:1<=qo zs 3)(b7:qo zs 15<=32):
  Calls Tryz.prog 158 #[.int .i64 2,.slice (some ⟨b,off,none⟩) 32 o,.bool false] w fun e w'=>(∃sa pe,e= .returned (.tuple #[parV (qo zs 0) (qo zs 1) (qo zs 2) (qo zs 3) (qO zs 4 4) (qO zs 8 6) 0 (qo zs 14) (qo zs 15) sa pe,.int .i64 0])/\w'.ownsRow w.heap.size 5 1 sa (Qp ((zs.drop 16).take 8) 8) ((((zs.drop 16).take 8).take (Qp ((zs.drop 16).take 8) 8)).map qp)/\w'.ownsRow w.heap.size 5 1 pe (Qp ((zs.drop 24).take 8) 8) ((((zs.drop 24).take 8).take (Qp ((zs.drop 24).take 8) 8)).map qp))/\Below w.heap.size w w':=by
 obtain⟨h1,h2⟩:=id hB;have HC:=hid h2;have HB:=hid hB;clear h2 hB;obtain⟨i0,hi,bb,bd,ba⟩:=info_parts qch;obtain⟨Z,aw⟩:=Ex (yp false false zs 1);have cu:0<=Z/\Z<256:=by have:=qY (big:=false) (ext:=false) hz hl (f:=1) (by omega) (by omega);rw[aw]at this;simpa [szE,szB] using this
 have aS:qo zs 0=Z:=by rw[<-aw];simp[yp,szE,szB,atB,zQ]
 rw[aS]at bO;try rw[aS]
 obtain⟨S,aB⟩:=Ex (yp false false zs 2);have cz:0<=S/\S<256:=by have:=qY (big:=false) (ext:=false) hz hl (f:=2) (by omega) (by omega);rw[aB]at this;simpa [szE,szB] using this
 have aV:qo zs 1=S:=by rw[<-aB];simp[yp,szE,szB,atB,zQ]
 rw[aV]at ak;try rw[aV]
 obtain⟨X,av⟩:=Ex (yp false false zs 3);have cl:0<=X/\X<256:=by have:=qY (big:=false) (ext:=false) hz hl (f:=3) (by omega) (by omega);rw[av]at this;simpa [szE,szB] using this
 have bn:qo zs 2=X:=by rw[<-av];simp[yp,szE,szB,atB,zQ]
 try rw[bn]
 obtain⟨Y,ar⟩:=Ex (yp false false zs 4);have cm:0<=Y/\Y<256:=by have:=qY (big:=false) (ext:=false) hz hl (f:=4) (by omega) (by omega);rw[ar]at this;simpa [szE,szB] using this
 have aW:qo zs 3=Y:=by rw[<-ar];simp[yp,szE,szB,atB,zQ]
 rw[aW]at b6;try rw[aW]
 obtain⟨V,aA⟩:=Ex (yp false false zs 5);have cn:0<=V/\V<4294967296:=by have:=qY (big:=false) (ext:=false) hz hl (f:=5) (by omega) (by omega);rw[aA]at this;simpa [szE,szB] using this
 have bg:qO zs 4 4=V:=by rw[<-aA];simp[yp,szE,szB,atB,zQ]
 try rw[bg]
 obtain⟨V6,au⟩:=Ex (yp false false zs 6);have cw:0<=V6/\V6<281474976710656:=by have:=qY (big:=false) (ext:=false) hz hl (f:=6) (by omega) (by omega);rw[au]at this;simpa [szE,szB] using this
 have a7:qO zs 8 6=V6:=by rw[<-au];simp[yp,szE,szB,atB,zQ]
 try rw[a7]
 obtain⟨V7,ax⟩:=Ex (yp false false zs 7);have cr:0<=V7/\V7<65536:=by have:=qY (big:=false) (ext:=false) hz hl (f:=7) (by omega) (by omega);rw[ax]at this;simpa [szE,szB] using this
 have bu:qO zs 12 2=V7:=by rw[<-ax];simp[yp,szE,szB,atB,zQ]
 try rw[bu]
 obtain⟨V8,az⟩:=Ex (yp false false zs 8);have co:0<=V8/\V8<256:=by have:=qY (big:=false) (ext:=false) hz hl (f:=8) (by omega) (by omega);rw[az]at this;simpa [szE,szB] using this
 have bl:qo zs 14=V8:=by rw[<-az];simp[yp,szE,szB,atB,zQ]
 try rw[bl]
 obtain⟨U,aq⟩:=Ex (yp false false zs 9);have ce:0<=U/\U<256:=by have:=qY (big:=false) (ext:=false) hz hl (f:=9) (by omega) (by omega);rw[aq]at this;simpa [szE,szB] using this
 have aO:qo zs 15=U:=by rw[<-aq];simp[yp,szE,szB,atB,zQ]
 rw[aO]at b7;try rw[aO]
 have hs: ∀w:World,Calls Tryz.prog 173 #[.int .i64 2] w fun e w'=>e= .returned (.int .i64 32)/\w'=w:=YM false
 obtain⟨G,aj⟩:=Ex w.heap.size;have a9:b<G:=by rw[<-aj];exact h1
 have bk: ∀W,Below G w W->Holds8 W (.slice (some ⟨b,off,none⟩) 32 o) zs:=fun W hW=>⟨some ⟨b,off,none⟩,o,by rw[hl],.inr ⟨b,off,rfl,Nat.lt_of_lt_of_le h1 hW.size,fun i hi=>(hW.cell (p:=⟨b,off+i,none⟩) a9).trans (HC.out i hi)⟩⟩
 have bf:=hid bk;clear bk;have aK:Below G w (w.alloc (.cells Kb 179)):=by rw[<-aj];exact Br.alloc Nl _
 have aP:=Wn w (.cells Kb 179);rw[aj]at aP;have bo:(w.alloc (.cells Kb 179)).heap.size=G+1:=by simp[aj]
 go_enter Tryz.func158,Tryz.ntmps158
 go_wp2_with fail
 refine(qc3 false _ _ _ _).mono ?_;rintro e w1 ⟨⟨x,rfl,hx⟩,hw⟩;rw[hw];clear hw;obtain rfl:x=0:=hx.2 rfl;clear hx;generalize w.alloc (.cells Kb 179)=w2 at*;have HR:=hid aP;clear aP;go_wp2_with fail
 go_loopw [9] (fun i wr=>i= .int .i64 18/\w2=wr) (fun _ _=>0)
 case atStart=>exact⟨rfl,rfl⟩
 case round=>
  obtain⟨rfl,rfl⟩:=hrel
  ·skip
   go_wp2_with fail
   have aC:(w2.alloc (.cells #[.int .u64 0] 44)).ownsRow (G+1) 44 1 (.slice (some ⟨G+1,0,none⟩) 1 1) 1 (JM false false zs 1):=by have:=World.ownsRow_lit (base:=G+1) (e:=44) (size:=1) w2 #[.int .u64 0] 1 (by omega) (by decide) rfl;rwa[bo]at this
   have aT:Below (G+1) w2 (w2.alloc (.cells #[.int .u64 0] 44)):=Br.alloc (by omega) _;go_loopw [10,11] (fun v f wr=> ∃(k:Nat),f= .int .i64 k/\1<=k/\k<=10/\wr.ownsRow (G+1) 44 1 v k (JM false false zs k)/\Below (G+1) w2 wr) (fun _ i _=>10 - (intOf i).toNat)
   case atStart=>exact⟨1,rfl,by omega,by omega,aC,aT⟩
   case round=>
    clear aC aT;obtain⟨f,rfl,ak,bQ,ad,hb⟩:=hrel;have bW:=hb.size;by_cases a3:f<=9
    ·have be:=yh false false f ak a3;have bm:yp false false zs f=qO zs (atB false f) (szE false false f):=if_neg (by omega);have e1:=hid (show JM false false zs (f+1)=JM false false zs f++[.int .u64 (qO zs (atB false f) (szE false false f))] by rw[JM,bm]);have k5:(f:Int)<=9:=by omega
     have aE:=hid (Jd false f ⟨ak,a3⟩);obtain⟨al,ai⟩:=Ex (atB false f);obtain⟨bj,ap⟩:=Ex (szB false f);obtain⟨af,ag⟩:=Ex (szE false false f);have bq:=hid ag;have bc:=hid ap;rw[ai,ag]at e1;rw[ai,ap]at aE;rw[ai,ag]at be;clear bm ai ap ag;obtain⟨j1,j2,j3,j4⟩:=be;have j5:al+af<=zs.length:=by omega
     clear j4;have a6:Below G w wr:=aK.trans (hb.mono (by omega));by_cases aN:f=6
     case pos=>
      subst aN;go_wp2_with fail
      refine(aE.out _).mono ?_;rintro r w4 ⟨rfl,hw⟩;rw[hw];clear hw;obtain rfl:af=bj:=by rw[<-bq.out,<-bc.out];simp[szE]
      go_wp2_with fail
      refine(ZZ zs _ al af _ (bf.out _ a6) hz (by omega) (by omega) (by omega)).mono ?_;rintro r w5 ⟨rfl,hw⟩;rw[hw];clear hw;go_wp2_with (at_builtin;refine wpList_append_own _ rfl _ _ 109 rfl (G+1) 44 i0 (.int .u64 0) 1 8 Tryz.underlying109 hi bb bd ba rfl (by decide) _ _ _ rfl (ad.alloc _) ⟨wr.heap.size,0,none⟩ 1 1 [.int .u64 (qO zs al af)] rfl rfl (cell_one_new _ _ _) (by simp[Value.oneCell']) (by unfold maxLen;omega) (by omega) (by simp;omega) ?_;intro v' w6 ac ah _;have ae:Below (G+1) w2 w6:=(hb.alloc (by omega) _).grown ah (by simp;omega) (fun k e=>(ad.lt k e).1))
      rw[<-e1.out]at ac;refine⟨⟨7,rfl,by omega,by omega,ac,ae⟩,?_⟩;first|(simp[intOf];done)|(simp[intOf];omega)
     case neg=>
      go_wp2_with fail
      refine(aE.out _).mono ?_;rintro r w4 ⟨rfl,hw⟩;rw[hw];clear hw;obtain rfl:af=bj:=by rw[<-bq.out,<-bc.out];simp[szE,aN]
      have ci: ¬((f:Int)=6):=by omega
      have ca: ¬(f=6):=aN;go_wp2_with fail
      refine(ZZ zs _ al af _ (bf.out _ a6) hz (by omega) (by omega) (by omega)).mono ?_;rintro r w5 ⟨rfl,hw⟩;rw[hw];clear hw;go_wp2_with (at_builtin;refine wpList_append_own _ rfl _ _ 109 rfl (G+1) 44 i0 (.int .u64 0) 1 8 Tryz.underlying109 hi bb bd ba rfl (by decide) _ _ _ rfl (ad.alloc _) ⟨wr.heap.size,0,none⟩ 1 1 [.int .u64 (qO zs al af)] rfl rfl (cell_one_new _ _ _) (by simp[Value.oneCell']) (by unfold maxLen;omega) (by omega) (by simp;omega) ?_;intro v' w6 ac ah _;have ae:Below (G+1) w2 w6:=(hb.alloc (by omega) _).grown ah (by simp;omega) (fun k e=>(ad.lt k e).1))
      rw[<-e1.out]at ac;refine⟨⟨f+1,rfl,by omega,by omega,ac,ae⟩,?_⟩;first|(simp[intOf];done)|(simp[intOf];omega)
    ·obtain rfl:f=10:=by omega
     obtain⟨g,cg,I,rfl,ck,an,bL,ab⟩:=qke ad;have aX:=hid an;have aM:I[1]? =some (.int .u64 Z):=by rw[ab 1 (by omega),QK _ _ _ _ _ (by omega),aw]
     have aQ:I[2]? =some (.int .u64 S):=by rw[ab 2 (by omega),QK _ _ _ _ _ (by omega),aB]
     have aJ:I[3]? =some (.int .u64 X):=by rw[ab 3 (by omega),QK _ _ _ _ _ (by omega),av]
     have aR:I[4]? =some (.int .u64 Y):=by rw[ab 4 (by omega),QK _ _ _ _ _ (by omega),ar]
     have aF:I[5]? =some (.int .u64 V):=by rw[ab 5 (by omega),QK _ _ _ _ _ (by omega),aA]
     have a4:I[6]? =some (.int .u64 V6):=by rw[ab 6 (by omega),QK _ _ _ _ _ (by omega),au]
     have aL:I[7]? =some (.int .u64 V7):=by rw[ab 7 (by omega),QK _ _ _ _ _ (by omega),ax]
     have aG:I[8]? =some (.int .u64 V8):=by rw[ab 8 (by omega),QK _ _ _ _ _ (by omega),az]
     have aU:I[9]? =some (.int .u64 U):=by rw[ab 9 (by omega),QK _ _ _ _ _ (by omega),aq]
     have aa:g<wr.heap.size:=(Ai an).1;have c7:=(qd an 7).trans aL;have f7:=frozen_of_row wr g 7 _ _ an;have bp:Below G w wr:=aK.trans (hb.mono (by omega));have ay:wr.heap[G]? =some (.cells Kb 179 (0,0)):=(hb.block G (by omega)).trans HR.out;clear ab ad HR hb a3 ak bQ an bo aK aw aS aB aV av bn ar aW aA bg au a7 ax bu az bl aq aO;go_upto_region 21 with(fail)
     have J:=heap_setCell_same wr g 7 _ _ (.int .u64 0) aX.out;have bN:=hid ((qd J 1).trans (show(I.setIfInBounds 7 (.int .u64 0))[1]? =some (.int .u64 (Z)) by rw[Array.getElem?_setIfInBounds];simpa using aM));have bM:=hid ((qd J 2).trans (show(I.setIfInBounds 7 (.int .u64 0))[2]? =some (.int .u64 (S)) by rw[Array.getElem?_setIfInBounds];simpa using aQ));have bJ:=hid ((qd J 3).trans (show(I.setIfInBounds 7 (.int .u64 0))[3]? =some (.int .u64 (X)) by rw[Array.getElem?_setIfInBounds];simpa using aJ));have bS:=hid ((qd J 4).trans (show(I.setIfInBounds 7 (.int .u64 0))[4]? =some (.int .u64 (Y)) by rw[Array.getElem?_setIfInBounds];simpa using aR));have bH:=hid ((qd J 5).trans (show(I.setIfInBounds 7 (.int .u64 0))[5]? =some (.int .u64 (V)) by rw[Array.getElem?_setIfInBounds];simpa using aF));have bX:=hid ((qd J 6).trans (show(I.setIfInBounds 7 (.int .u64 0))[6]? =some (.int .u64 (V6)) by rw[Array.getElem?_setIfInBounds];simpa using a4));have b3:=hid ((qd J 7).trans (show(I.setIfInBounds 7 (.int .u64 0))[7]? =some (.int .u64 (0)) by rw[Array.getElem?_setIfInBounds];simp;omega));have bF:=hid ((qd J 8).trans (show(I.setIfInBounds 7 (.int .u64 0))[8]? =some (.int .u64 (V8)) by rw[Array.getElem?_setIfInBounds];simpa using aG));have bE:=hid ((qd J 9).trans (show(I.setIfInBounds 7 (.int .u64 0))[9]? =some (.int .u64 (U)) by rw[Array.getElem?_setIfInBounds];simpa using aU));have bP:Below G w (wr.setCell ⟨g,7,none⟩ (.int .u64 0)):=bp.setCell (by show G<=g;omega) _;have bs:(wr.setCell ⟨g,7,none⟩ (.int .u64 0)).heap[G]? =some (.cells Kb 179 (0,0)):=(heap_setCell_other wr _ _ _ (by show G≠g;omega)).trans ay;have aI:(wr.setCell ⟨g,7,none⟩ (.int .u64 0)).heap.size=wr.heap.size:=by simp[World.setCell]
     rw[<-aI]at aa bW;clear bp aX J aI c7 f7 ay;generalize wr.setCell ⟨g,7,none⟩ (.int .u64 0)=W8 at*;have ay:=bs;clear bs;clear aM aQ aJ aR aF a4 aL aG aU bL;go_wp2_with fail
     refine(hs _).mono ?_;rintro r w9 ⟨rfl,hw⟩;rw[hw];clear hw;go_upto_region 22 with(fail)
     refine qE (n:=49) (w0:=W8) (B:=W8.heap.size) [.v 72 (.slice (some ⟨g,0,none⟩) 10 cg),.z 73 g 1,.v 74 (.int .u64 Z),.v 75 (.int .i64 Z),.v 76 (.slice (some ⟨g,0,none⟩) 10 cg),.z 77 g 2,.v 78 (.int .u64 S),.v 79 (.int .i64 S),.v 80 (.slice (some ⟨g,0,none⟩) 10 cg),.z 81 g 3,.v 82 (.int .u64 X),.v 83 (.int .i64 X),.v 84 (.slice (some ⟨g,0,none⟩) 10 cg),.z 85 g 4,.v 86 (.int .u64 Y),.v 87 (.int .i64 Y),.v 88 (.slice (some ⟨g,0,none⟩) 10 cg),.z 89 g 5,.v 90 (.int .u64 V),.v 91 (.int .u32 V),.v 92 (.slice (some ⟨g,0,none⟩) 10 cg),.z 93 g 6,.v 94 (.int .u64 V6),.v 95 (.slice (some ⟨g,0,none⟩) 10 cg),.z 96 g 7,.v 97 (.int .u64 0),.v 98 (.int .u32 0),.v 99 (.slice (some ⟨g,0,none⟩) 10 cg),.z 100 g 8,.v 101 (.int .u64 V8),.v 102 (.int .i64 V8),.v 103 (.slice (some ⟨g,0,none⟩) 10 cg),.z 104 g 9,.v 105 (.int .u64 U),.v 106 (.int .i64 U),.v 107 (.slice (some ⟨b,off,none⟩) 32 o),.v 108 (.int .i64 8),.v 109 (.int .i64 16),.v 110 (.int .i64 8),.v 111 (.int .i64 24),.v 112 (.slice (some ⟨b,off+16,none⟩) 8 (o - 16)),.v 113 (.slice (some ⟨b,off,none⟩) 32 o),.v 114 (.int .i64 8),.v 115 (.int .i64 24),.v 116 (.int .i64 8),.v 117 (.int .i64 32),.v 118 (.slice (some ⟨b,off+24,none⟩) 8 (o - 24)),.v 119 (.agg #[.int .i64 Z,.int .i64 S,.int .i64 X,.int .i64 Y,.int .u32 V,.int .u64 V6,.int .u32 0,.int .i64 V8,.int .i64 U,.slice (some ⟨b,off+16,none⟩) 8 (o - 16),.slice (some ⟨b,off+24,none⟩) 8 (o - 24)]),.p 15 (fun u W=> ∃p,u= .pointer (some ⟨p,0,none⟩)/\W8.heap.size<=p/\W.heap[p]? =some (.cells Kb 179 (0,0)))] (by exact⟨(fun _ _ _ h hb=>by obtain⟨p,e,h3,h4⟩:=h;exact⟨p,e,h3,qf h4 hb⟩),trivial⟩) Br.drew Nl ?_ ?_
     ·repeat' (with_reducible first|exact qz|refine qx ?_ ?_)
      all_goals try
       intro A x W O hW am q D K hK;have bI:=O.2 10 (by decide);conv at bI=>rhs;whnf
       have a1:=O.2 1 (by decide);conv at a1=>rhs;whnf
       have bR:=O.2 14 (by decide);conv at bR=>rhs;whnf
       simp only[QS,yc]at D;clear q O;first
       | go_simp
         exact hK _ _ BR rfl
       | have y0:=(hW.cell (p:=⟨g,1,none⟩) aa).trans bN.out
         have y1:g<W.heap.size:=by omega
         have y2:IntKind.i64.wrap Z=Z:=by rw[IntKind.wrap_i64];omega
         have y3:=(hW.cell (p:=⟨g,2,none⟩) aa).trans bM.out;have y4:IntKind.i64.wrap S=S:=by rw[IntKind.wrap_i64];omega
         have y5:=(hW.cell (p:=⟨g,3,none⟩) aa).trans bJ.out;have y6:IntKind.i64.wrap X=X:=by rw[IntKind.wrap_i64];omega
         have y7:=(hW.cell (p:=⟨g,4,none⟩) aa).trans bS.out;have y8:IntKind.i64.wrap Y=Y:=by rw[IntKind.wrap_i64];omega
         have y9:=(hW.cell (p:=⟨g,5,none⟩) aa).trans bH.out;have cy:IntKind.u32.wrap V=V:=u32_wrap_id _ (by omega) (by omega);have cd:=(hW.cell (p:=⟨g,6,none⟩) aa).trans bX.out;have cc:=(hW.cell (p:=⟨g,7,none⟩) aa).trans b3.out;have ct:=(hW.cell (p:=⟨g,8,none⟩) aa).trans bF.out;have cx:IntKind.i64.wrap V8=V8:=by rw[IntKind.wrap_i64];omega
         have cj:=(hW.cell (p:=⟨g,9,none⟩) aa).trans bE.out;have cf:IntKind.i64.wrap U=U:=by rw[IntKind.wrap_i64];omega
         have cp: ¬o=16:=by omega
         have cv: ¬o=24:=by omega
         have cq:32<=(o:Int):=by omega
         have cb:24<=(o:Int):=by omega
         go_simp
         exact hK _ _ BR rfl
      ·intro A x W O hW am q _ K hK;have b5:=gv O q 3 75;have bD:=gv O q 7 79;have bV:=gv O q 11 83;have bG:=gv O q 15 87;have bU:=gv O q 19 91;have bK:=gv O q 22 94;have bZ:=gv O q 26 98;have bw:=gv O q 30 102;have bA:=gv O q 34 106;have bC:=gv O q 40 112;have bx:=gv O q 46 118;clear q O;refine Zl 179 _ rfl #[.int .i64 Z,.int .i64 S,.int .i64 X,.int .i64 Y,.int .u32 V,.int .u64 V6,.int .u32 0,.int .i64 V8,.int .i64 U,.slice (some ⟨b,off+16,none⟩) 8 (o - 16),.slice (some ⟨b,off+24,none⟩) 8 (o - 24)] ?_ (hK _ _ Br rfl);simp only[List.map_toArray,List.map_cons,List.map_nil,Act.eval,b5,bD,bV,bG,bU,bK,bZ,bw,bA,bC,bx];kernel_rfl
      ·intro A x W O hW am q _ K hK;clear q O;go_simp
       exact hK _ _ (Br.alloc Nl _) ⟨W.heap.size,rfl,am,Wn W _⟩
     intro x W hW am bz;obtain⟨bv, -⟩:=bz;change (fun u W=> ∃p,u= .pointer (some ⟨p,0,none⟩)/\W8.heap.size<=p/\W.heap[p]? =some (.cells Kb 179 (0,0))) (x 15) W at bv
     obtain⟨p,ep,b4,aZ⟩:=bv;refine qt ?_;simp only[QG,Act.put,Ls,ep];refine wpList_store_row rfl 179 _ _ rfl p #[.int .i64 Z,.int .i64 S,.int .i64 X,.int .i64 Y,.int .u32 V,.int .u64 V6,.int .u32 0,.int .i64 V8,.int .i64 U,.slice (some ⟨b,off+16,none⟩) 8 (o - 16),.slice (some ⟨b,off+24,none⟩) 8 (o - 24)] rfl rfl 179 _ aZ (by kernel_rfl) rfl (by simp[Value.oneCell']) ?_;refine qw ?_;have ao:Below W8.heap.size W8 (W.setRow p #[.int .i64 Z,.int .i64 S,.int .i64 X,.int .i64 Y,.int .u32 V,.int .u64 V6,.int .u32 0,.int .i64 V8,.int .i64 U,.slice (some ⟨b,off+16,none⟩) 8 (o - 16),.slice (some ⟨b,off+24,none⟩) 8 (o - 24)]):=below_setRow hW b4 _;have br:=setRow_heap W p _ #[.int .i64 Z,.int .i64 S,.int .i64 X,.int .i64 Y,.int .u32 V,.int .u64 V6,.int .u32 0,.int .i64 V8,.int .i64 U,.slice (some ⟨b,off+16,none⟩) 8 (o - 16),.slice (some ⟨b,off+24,none⟩) 8 (o - 24)] _ _ aZ;generalize W.setRow p #[.int .i64 Z,.int .i64 S,.int .i64 X,.int .i64 Y,.int .u32 V,.int .u64 V6,.int .u32 0,.int .i64 V8,.int .i64 U,.slice (some ⟨b,off+16,none⟩) 8 (o - 16),.slice (some ⟨b,off+24,none⟩) 8 (o - 24)]=W3 at ao br⊢;clear ep aZ hW am x W;have ch:=ao.size;have ae:Below G w W3:=bP.trans (ao.mono (by omega));have bY:W3.heap[G]? =some (.cells Kb 179 (0,0)):=(ao.block G (by omega)).trans ay;have aD:Qy W3 b off zs:=⟨Nat.lt_of_lt_of_le h1 ae.size,fun i hi=>(ae.cell (p:=⟨b,off+i,none⟩) a9).trans (HC.out i hi)⟩;have aH:=J0 false Z S X Y V V6 V8 U ((zs.drop 16).take 8) ((zs.drop 24).take 8) b (off+16) (o - 16) b (off+24) (o - 24) W3 (zG aD (by omega)) (zG aD (by omega)) (by rw[QC (by omega)];omega) (by rw[QC (by omega)];omega) (by rw[QC (by omega)];decide) (by rw[QC (by omega)];decide) ⟨by simp only[mB,cond];omega,by simp only[mB,cond];omega,by omega,by omega,⟨by omega,fun h=>by omega⟩,by omega,by simp only[mB,cond];omega⟩;rw[QC (by omega),QC (by omega)]at aH;have bi:=hid aH;clear aH aD ao;go_wp2_with (refine L179 p rfl br ?_)
     refine bi.out.mono ?_;rintro r w7 ⟨⟨sa,pe,rfl,os,op⟩,bh⟩;clear bi;have bt:=qf bY bh;have bT:Below G w w7:=ae.trans (bh.mono (by omega));obtain⟨a5,n5,k5,rfl⟩:=qr os;obtain⟨a8,n8,k8,rfl⟩:=qr op;unfold parV;go_wp2_with ((with_reducible show wpList _ _ _ (Oper.mk _ (Op.store 179 _ _) _ _ _ _::_) _ _);refine wpList_store_row rfl 179 _ _ rfl G #[.int .i64 Z,.int .i64 S,.int .i64 X,.int .i64 Y,.int .u32 V,.int .u64 V6,.int .u32 0,.int .i64 V8,.int .i64 U,.slice a5 n5 k5,.slice a8 n8 k8] rfl rfl 179 _ bt (by kernel_rfl) rfl (by simp[Value.oneCell']) ?_)
     have aY: ∀{v:Value} {n:Nat} {xs:List Value},w7.ownsRow W3.heap.size 5 1 v n xs->(w7.setRow G #[.int .i64 Z,.int .i64 S,.int .i64 X,.int .i64 Y,.int .u32 V,.int .u64 V6,.int .u32 0,.int .i64 V8,.int .i64 U,.slice a5 n5 k5,.slice a8 n8 k8]).ownsRow w.heap.size 5 1 v n xs:=fun h=>ownsRow_le (qi h (fun g g1 _=>setRow_other _ _ _ _ (by omega))) (by omega)
     exact Bp (qI rfl _ _ G _ _ _ _ rfl (setRow_heap _ G _ _ _ _ bt) Tryz.underlying179 rfl (by kernel_rfl)) rfl ⟨⟨_,_,rfl,aY os,aY op⟩,by rw[aj];exact below_setRow bT Nl _⟩
end Go.Proofs.YtahenngmaoellaaGreat
namespace Go.Proofs.YtahenngmaoellaaGreat
open Go.ChangeShapes Go.WideShapes Go.ChangeAt Go.RowKit Go.Joins Go.Shelf Go.Maps
open Go.Lib (hid)
variable{n:Nat}{zs o x key:List Int}
attribute [local go_sem] Oper.semAt_some zi
theorem qdP (x n:Nat)(hn:n<=8)(hx:(x:Int)<=18446744073709551615)(w:World):
  Calls Tryz.prog 197 #[.int .u64 x,.int .i64 n] w fun e w'=> ∃v,e= .returned v/\w'.ownsRow w.heap.size 5 1 v n ((qD x n).map qp)/\Below w.heap.size w w':=by
 obtain⟨Z,hi,U,S,V⟩:=info_parts Qu;go_enter Tryz.func197,Tryz.ntmps197
 go_wp2_with fail
 go_loopw [0,5,6] (fun t o i wr=> ∃(k:Nat) (v:Value),t= .int .u64 (Zk x k)/\o=v/\i= .int .i64 k/\k<=n/\wr.ownsRow w.heap.size 5 1 v k ((qD x k).map qp)/\Below w.heap.size w wr) (fun _ _ i _=>n - (intOf i).toNat)
 case atStart=>exact⟨0,_,by simp[Zk],rfl,rfl,by omega,Wo _ _ _ _,Below.refl _ _⟩
 case round=>
  obtain⟨k,v,rfl,rfl,rfl,hk,q,G⟩:=hrel;have I:=G.size;by_cases aa:k<n
  ·have q1:=qeV x k;have q2:=qeW x k;have q4:IntKind.u64.wrap ((Zk x (k+1):Nat):Int)=((Zk x (k+1):Nat):Int):=u64_wrap_id _ (by omega) (by have:=qbA x (k+1);omega);have q3:(Zk x k:Int)<=18446744073709551615:=by have:=qbA x k;omega
   have O:(qD x (k+1)).map qp=(qD x k).map qp++[.int .u8 (byt x k)]:=by rw[zH,List.map_append];rfl
   have X:=hid O;clear O;go_wp2_with (at_builtin;refine wpList_append_own _ rfl _ _ 24 rfl w.heap.size 5 Z (.int .u8 0) 1 1 Tryz.underlying24 hi U S V rfl (by decide) _ _ _ rfl (q.alloc _) ⟨wr.heap.size,0,none⟩ 1 1 [.int .u8 (byt x k)] rfl rfl (cell_one_new _ _ _) (by simp[Value.oneCell']) (by unfold maxLen;omega) (by omega) (by simp;omega) ?_;intro v' Y r D _;have J:Below w.heap.size w Y:=(G.alloc I _).grown D (by simp;omega) (fun k e=>(q.lt k e).1))
   rw[<-X.out]at r;exact⟨⟨k+1,v',rfl,rfl,rfl,by omega,r,J⟩,by simp[intOf];omega⟩
  ·obtain rfl:k=n:=by omega
   go_wp2
   go_ret
   exact⟨_,rfl,q,G⟩
def wB (big:Bool):Nat:=cond big 8 4
theorem qb4 (big:Bool)(w:World):
  Calls Tryz.prog 160 #[.int .i64 (kB big)] w fun e w'=>e= .returned (.int .i64 (mB big))/\w'=w:=by
 cases big<;>
 ·simp only[kB,mB,cond];go_enter Tryz.func160,Tryz.ntmps160
  go_wp2
  go_ret
  exact⟨rfl,rfl⟩
theorem qa6 (big:Bool)(h:List Int)(hh:Words 64 16 h)(w:World):
  Calls Tryz.prog 184 #[.int .i64 (kB big),.agg (qj .u64 h)] w fun e w'=> ∃v,e= .returned v/\w'.ownsRow w.heap.size 5 1 v (wB big*8) ((qQ (wB big) h 8).map qp)/\Below w.heap.size w w':=by
 obtain⟨i0,hi,am,ak,ao⟩:=info_parts Qu;obtain⟨G,Z⟩:=Ex w.heap.size;have ah:Below G w (w.alloc (.cells (qj .u64 h) 257)):=by rw[<-Z];exact Br.alloc Nl _
 have ab:wB big<=8:=by cases big<;>decide
 have ay:0<wB big:=by cases big<;>decide
 have aw:(((mB big:Nat):Int).tdiv 8)=(wB big:Nat):=by cases big<;>rfl
 go_enter Tryz.func184,Tryz.ntmps184
 go_wp2_with fail
 go_loopw [5,6] (fun o i wr=> ∃(k:Nat) (v:Value),o=v/\i= .int .i64 k/\k<=8/\wr.ownsRow (G+1) 5 1 v (wB big*k) ((qQ (wB big) h k).map qp)/\Below (G+1) (w.alloc (.cells (qj .u64 h) 257)) wr) (fun _ i _=>8 - (intOf i).toNat)
 case atStart=>exact⟨0,_,rfl,rfl,by omega,Wo _ _ _ _,Below.refl _ _⟩
 case round=>
  obtain⟨k,v,rfl,rfl,hk,Y,V⟩:=hrel;have ag:G+1<=wr.heap.size:=by have:=V.size;simp at this;omega
  by_cases aA:k<8
  ·have ae:wr.cell? ⟨G,k,none⟩=some (.int .u64 (wd h k)):=by
    rw[V.cell (p:=⟨G,k,none⟩) (by show G<G+1;omega),<-Z,qd (Wn w _) k];exact qF hh (by omega)
   have ac:G<wr.heap.size:=by omega
   have aj:=yK hh (show k<16 by omega);obtain⟨X,hX,al⟩: ∃X:Nat,wd h k=(X:Int)/\(wd h k).toNat=X:=⟨(wd h k).toNat,by omega,rfl⟩;rw[hX]at ae aj;have ai:(X:Int)<=18446744073709551615:=by omega
   have av:wB big*k<=64:=by have:=Nat.mul_le_mul ab (show k<=8 by omega);omega
   have au:IntKind.i64.wrap (((mB big:Nat):Int).tdiv 8)=(wB big:Nat):=by cases big<;>rfl
   have ar:IntKind.i64.wrap ((wB big:Nat):Int)=(wB big:Nat):=by cases big<;>rfl
   have k1:(k:Int)<16:=by omega
   have k2:0<=(k:Int):=by omega
   have aq:Below wr.heap.size wr wr.drew:=Br.drew;go_wp2_with fail
   rw[decide_eq_true (show(k:Int)<8 by omega)];refine qE (n:=8) (w0:=wr) (B:=wr.heap.size) [.v 11 u5,.v 12 (.int .i64 k),.z 13 G k,.v 14 (.int .u64 X),.v 15 (.int .i64 (kB big)),.v 16 (.int .i64 (mB big)),.v 17 (.int .i64 (wB big)),.p 18 (fun u W=>W.ownsRow wr.heap.size 5 1 u (wB big) ((qD X (wB big)).map qp))] (by exact⟨(fun _ _ _ h V=>qi h (fun g _ g2=>V.block g g2)),trivial⟩) aq Nl ?_ ?_
   ·repeat' (with_reducible first|exact qz|refine qx ?_ ?_)
    all_goals try
     intro A x W I S J q D K U;have a5:=I.2 5 (by decide);conv at a5=>rhs;whnf
     have a6:=I.2 6 (by decide);conv at a6=>rhs;whnf
     have a3:=I.2 3 (by decide);conv at a3=>rhs;whnf
     have a0:=I.2 0 (by decide);conv at a0=>rhs;whnf
     simp only[QS,yc]at D;clear q I;first
     | go_simp
       exact U _ _ BR rfl
     | have y0:=(S.cell (p:=⟨G,k,none⟩) ac).trans ae
       have y1:G<W.heap.size:=Nat.lt_of_lt_of_le ac J;go_simp
       exact U _ _ BR rfl
    ·intro A x W I S J q _ K U;have ax:=gv I q 4 15;clear q I;go_simp
     refine(qb4 big W).mono ?_;rintro r w2 ⟨rfl,rfl⟩
     exact U _ _ BR rfl
    ·intro A x W I S J q _ K U;have aB:=gv I q 3 14;have az:=gv I q 6 17;clear q I;go_simp
     refine(qdP X (wB big) ab ai W).mono ?_;rintro r w2 ⟨u,rfl,aa,ap⟩
     exact U _ _ ap (ownsRow_le aa J)
   intro x W S J af;obtain⟨ad, -⟩:=af;change (fun u W=>W.ownsRow wr.heap.size 5 1 u (wB big) ((qD X (wB big)).map qp)) (x 18) W at ad
   refine qt ?_;simp only[QG,Act.put,Ls];refine Qb rfl _ _ _ (by rfl) (w.alloc (.cells (qj .u64 h) 257)) (G+1) (by simp;omega) (V.trans (S.mono ag)) 5 i0 (.int .u8 0) 1 Tryz.underlying24 hi am ak ao rfl _ (wB big*k) ((qQ (wB big) h k).map qp) (by rfl) (qi Y (fun g _ g2=>S.block g g2)) (x 18) (wB big) ((qD X (wB big)).map qp) (by rfl) (qfX ad (by simp[qp,Value.oneCell'])) (by unfold maxLen;omega) (by omega) ?_;intro v' w' O an;refine qt ?_;rw[<-List.map_append,<-al]at O;simp only[Act.put,Ls];go_wp2_with fail
   refine qw ?_;go_wp2_with fail
   exact⟨⟨k+1,v',rfl,rfl,by omega,O,an⟩,by simp[intOf];omega⟩
  ·obtain rfl:k=8:=by omega
   go_wp2
   go_ret
   refine⟨_,rfl,ownsRow_le Y (by omega),?_⟩;rw[Z];exact ah.trans (V.mono (by omega))
def bB (big:Bool):Nat:=cond big 128 64
def nB (big:Bool):Nat:=cond big 64 32
def wK (big:Bool):IntKind:=cond big .u64 .u32
theorem zb (big:Bool):0<bB big:=by cases big<;>decide
theorem qjz (big:Bool): ∀z,(wK big).wrap z=z%2^nB big:=by
 cases big
 ·intro z;exact IntKind.wrap_u32 z
 ·intro z;exact IntKind.wrap_u64 z
def yR (big:Bool)(h bs:List Int)(lo:Int)(last node:Bool):List Int:=
 cond big (Zy mixBig IVb 12 h (Q7 8 16 bs) lo 0 last node) (Zy mixSmall IVs 10 h (Q7 4 16 bs) (lo%4294967296) (lo/4294967296) last node)
theorem Q1 (big:Bool){h:List Int}(q:Words (nB big) 8 h)(r:List Int)(lo:Int)(o node:Bool):Words (nB big) 8 (yR big h r lo o node):=by
 cases big
 ·exact QR (k:= .u32) (N:=32) (fun z=>IntKind.wrap_u32 z) q 8
 ·exact QR (k:= .u64) (N:=64) (fun z=>IntKind.wrap_u64 z) q 8
def QI (n:Nat)(zs:List Int):List Int:=zs++List.replicate (n - zs.length) 0
theorem QP (h:zs.length<=n):(QI n zs).length=n:=by simp[QI];omega
theorem qhN (h:zs.length=n):QI n zs=zs:=by simp[QI,h]
theorem yy (h: ∀z∈zs,0<=z/\z<=255): ∀z∈QI n zs,0<=z/\z<=255:=by
 intro z o;rcases List.mem_append.1 o with o|o
 ·exact h z o
 ·rw[List.eq_of_mem_replicate o];omega
def qaQ (n:Nat)(msg:List Int)(k:Nat):List Int:=QI n ((msg.drop (n*k)).take n)
theorem qjk {k:Nat}(h:n*(k+1)<=o.length):qaQ n (o++x) k=qaQ n o k:=by
 have e:n*(k+1)=n*k+n:=Nat.mul_succ n k;unfold qaQ;rw[List.drop_append_of_le_length (by omega),List.take_append_of_le_length (by simp;omega)]
def stZ (big:Bool)(h0 msg:List Int):Nat->List Int
 | 0=>h0
 | k+1=>yR big (stZ big h0 msg k) (qaQ (bB big) msg k) ((bB big*(k+1):Nat):Int) false false
theorem Yr (big:Bool){q:List Int}(r:Words (nB big) 8 q)(o:List Int): ∀k,Words (nB big) 8 (stZ big q o k)
 | 0=>r
 | k+1=>Q1 big (Yr big r o k) _ _ _ _
theorem qdH (big:Bool)(q:List Int){o x:List Int}: ∀{k:Nat},bB big*k<=o.length->stZ big q (o++x) k=stZ big q o k
 | 0,_=>rfl
 | k+1,h=>by
  have e:bB big*(k+1)=bB big*k+bB big:=Nat.mul_succ _ k;rw[stZ,stZ,qdH big q (k:=k) (by omega),qjk h]
def nbk (n len:Nat):Nat:=(len - 1)/n
theorem YF (o:0<n)(len:Nat):n*nbk n len<=len/\len<=n*nbk n len+n/\(0<len->n*nbk n len<len):=by
 have q:=Nat.div_add_mod (len - 1) n;have r:=Nat.mod_lt (len - 1) o;unfold nbk;omega
theorem qiW {len q:Nat}(r:n*q<len)(D:len<=n*q+n):nbk n len=q:=by
 unfold nbk;have o:q*n=n*q:=Nat.mul_comm _ _;have G:(q+1)*n=n*q+n:=by rw[Nat.succ_mul,o]
 exact Nat.div_eq_of_lt_le (by omega) (by omega)
theorem qfa (n:Nat):nbk n 0=0:=by simp[nbk]
def yq (n:Nat)(msg:List Int):List Int:=msg.drop (n*nbk n msg.length)
theorem zU (n:Nat)(o:List Int):(yq n o).length=o.length - n*nbk n o.length:=by simp[yq]
theorem jI (q:0<n)(o:List Int):(yq n o).length<=n:=by
 rw[zU];have:=YF q o.length;omega
theorem zV (h: ∀z∈o,0<=z/\z<=255): ∀z∈yq n o,0<=z/\z<=255:=fun z q=>h z (List.mem_of_mem_drop q)
theorem qaP (q:0<n)(o:List Int):qaQ n o (nbk n o.length)=QI n (yq n o):=by
 unfold qaQ;show QI n ((yq n o).take n)=_
 rw[List.take_of_length_le (jI q o)]
theorem qhW (r:0<n)(I:0<x.length)(G:(yq n o).length+x.length<=n):
  nbk n (o++x).length=nbk n o.length/\yq n (o++x)=yq n o++x:=by
 rw[zU]at G;have D:=YF r o.length;have q:nbk n (o++x).length=nbk n o.length:=qiW (by simp;omega) (by simp;omega);refine⟨q,?_⟩;unfold yq;rw[q,List.drop_append_of_le_length D.1]
theorem qhX (D:0<n)(S:0<x.length)(I:x.length<=n)(G:(yq n o).length=n):
  nbk n (o++x).length=nbk n o.length+1/\yq n (o++x)=x/\n*(nbk n o.length+1)=o.length:=by
 rw[zU]at G;have J:=YF D o.length;have O:n*(nbk n o.length+1)=n*nbk n o.length+n:=Nat.mul_succ _ _;have r:n*(nbk n o.length+1)=o.length:=by omega
 have q:nbk n (o++x).length=nbk n o.length+1:=qiW (by simp;omega) (by simp;omega);refine⟨q,?_,r⟩;unfold yq;rw[q,r,List.drop_left]
def qgY (big:Bool)(h0 msg H:List Int)(lo:Nat)(hl:List Int):Prop:=
 ∀x:List Int,0<x.length->hl.length+x.length<=bB big->stZ big h0 (msg++x) (nbk (bB big) (msg++x).length)=H/\bB big*nbk (bB big) (msg++x).length=lo/\yq (bB big) (msg++x)=hl++x
theorem qdi (big:Bool)(q o:List Int):qgY big q o (stZ big q o (nbk (bB big) o.length)) (bB big*nbk (bB big) o.length) (yq (bB big) o):=by
 intro x G D;obtain⟨r,I⟩:=qhW (zb big) G D;rw[r,I];exact⟨qdH big q (YF (zb big) _).1,rfl,rfl⟩
theorem qdj (big:Bool)(q o:List Int)(r:(yq (bB big) o).length=bB big):
  qgY big q o (yR big (stZ big q o (nbk (bB big) o.length)) (yq (bB big) o) ((bB big*nbk (bB big) o.length+bB big:Nat):Int) false false) (bB big*nbk (bB big) o.length+bB big) []:=by
 intro x I G;obtain⟨D,J,O⟩:=qhX (zb big) I (by simpa using G) r;have e:bB big*(nbk (bB big) o.length+1)=bB big*nbk (bB big) o.length+bB big:=Nat.mul_succ _ _;rw[D,J];refine⟨?_,e,rfl⟩;rw[qdH big q (by omega),stZ,qaP (zb big),qhN r,e]
theorem qac (q:0<n)(o:List Int):n*nbk n o.length+(yq n o).length=o.length:=by
 rw[zU];have:=YF q o.length;omega
def Zc (big:Bool)(h0 msg:List Int)(node:Bool):List Int:=
 qQ (wB big) (yR big (stZ big h0 msg (nbk (bB big) msg.length)) (qaQ (bB big) msg (nbk (bB big) msg.length)) (msg.length:Int) true node) 8
theorem Zs (big:Bool)(q o:List Int)(node:Bool):(Zc big q o node).length=mB big:=by
 unfold Zc;rw[JA];cases big<;>rfl
theorem qe5 (big:Bool)(q o:List Int)(node:Bool): ∀z∈Zc big q o node,0<=z/\z<=255:=JB _ _ _
def h0Z (big:Bool)(block:List Int):List Int:=yL (wK big) (cond big IVb IVs) (wB big) block
theorem Q4 (big:Bool)(o:List Int):Words (nB big) 8 (h0Z big o):=YY (qjz big) _ _ _
def yH (n:Nat)(key:List Int):List Int:=if key.length=0 then [] else QI n key
theorem zD (h: ∀z∈key,0<=z/\z<=255): ∀z∈yH n key,0<=z/\z<=255:=by
 unfold yH;split
 ·intro z o;cases o
 ·exact yy h
theorem zC (h:key.length<=n):(yH n key).length<=n:=by
 unfold yH;split
 ·simp
 ·rw[QP h];exact Nat.le_refl _
