/- The rows above the leaves, by the reference. No condition. -/
import Derived.Test.YthjoojnlnlmljaaGreatP01
import Derived.Test.YthjoojnlnlmljaaGreatB38
import Derived.Test.YthjoojnlnlmljaaGreatB39
import Derived.Test.YthjoojnlnlmljaaGreatB05
import Derived.Test.YthjoojnlnlmljaaGreatB34
set_option linter.all false
set_option maxRecDepth 100000
set_option maxHeartbeats 8000000
namespace Go.Proofs.YthjoojnlnlmljaaGreat
open Go.ChangeShapes Go.WideShapes Go.ChangeAt Go.RowKit Go.Joins Go.Shelf Go.Maps
open Go.Lib (hid)
attribute [local go_sem] Oper.semAt_some
def TreeV.lvlC (t:TreeV)(kz z1 z2:List Int)(L0:List (List Int))(r:Nat):List CallS:=t.rowC kz z1 z2 (r+1) (t.rootZ (r+1) (t.lvlZ kz z1 z2 L0 r).length) (t.upZ (r+1) (t.lvlZ kz z1 z2 L0 r)) (t.upZ (r+1) (t.lvlZ kz z1 z2 L0 r)).length
def TreeV.lvlsC (t:TreeV)(kz z1 z2:List Int)(L0:List (List Int))(m:Nat):List (List CallS):=(List.range m).map (t.lvlC kz z1 z2 L0)
theorem qaI (t:TreeV)(kz z1 z2:List Int)(o:List (List Int))(m:Nat):t.lvlsC kz z1 z2 o (m+1)=t.lvlsC kz z1 z2 o m++[t.lvlC kz z1 z2 o m]:=by simp[TreeV.lvlsC,List.range_succ]
theorem YF (t:TreeV)(kz z1 z2:List Int)(o:List (List Int))(m:Nat):(t.lvlsC kz z1 z2 o m).length=m:=by simp[TreeV.lvlsC]
def jx (L:List (List Int))(a m:Nat):List Int:=((L.drop a).take (m - a)).flatten
theorem qb7 {L:List (List Int)}{a m:Nat}(o:a≤m)(q:m<L.length):jx L a (m+1)=jx L a m++qC L m:=by
 unfold jx;rw[show m+1 - a=(m - a)+1 by omega,jG (by simp;omega),qaq,show a+(m - a)=m by omega]
theorem qgm (L:List (List Int))(a:Nat):jx L a a=[]:=by simp[jx]
theorem qhI (L:List (List Int))(a m:Nat):(jx L a m).length≤L.flatten.length:=YV ((List.take_sublist _ _).trans (List.drop_sublist _ _))
theorem ListH.bounds {w:World}{v:Value}{L:List (List Int)}(h:ListH w v L): ∀l∈L,∀z∈l,0≤z∧z≤255:=by
 obtain⟨a,I,rfl, -, -,G⟩:=h;intro l o z D;rcases G with rfl|⟨g,off, -, -,r⟩
 ·cases o
 ·obtain⟨i,hi,rfl⟩:=List.mem_iff_getElem.1 o;obtain⟨x, -,q⟩:=r i hi;have e:qC L i=L[i]:=by unfold qC;simp[Lg,hi]
  rw[e]at q;exact q.1 z D
theorem qdZ {L:List (List Int)}{a m:Nat}(h: ∀l∈L,∀z∈l,0≤z∧z≤255): ∀z∈jx L a m,0≤z∧z≤255:=by
 intro z q;obtain⟨l,r,o⟩:=List.mem_flatten.1 q;exact h l (List.mem_of_mem_drop (List.mem_of_mem_take r)) z o
theorem qgB (t:TreeV)(kz z1 z2:List Int)(total:Nat)(G:List (List Int))(v:Value)(w0 w:World)(h:TreeOk t kz z1 z2 w0)(he:t.err total=0)(hv:ListH w v G)(hw:Below w0.heap.size w0 w)(h0:G.length=lvs total t.ln)(h1: ∀z∈G,z.length≤64)(hn:G.length≤8388608)(ht:(total:Int)≤18446744073709551615):
  Calls Tryz.prog 65 #[t.val,.int .u64 total,v] w fun e w'=> ∃cv u,e= .returned (.tuple #[cv,u])∧LevO w0 w.heap.size w' cv (t.lvlsC kz z1 z2 G ((t.rowsOf total).length - 1))∧OwnB w.heap.size w' u (qC (t.lvlZ kz z1 z2 G ((t.rowsOf total).length - 1)) 0)∧Below w.heap.size w w':=by
 obtain⟨b0,ai⟩:=Ex w.heap.size;have cO:w0.heap.size≤b0:=by have:=hw.size;omega
 have HW:=hid hw;have HT:=hid h;have HV:=hid hv;have HE:=hid he;obtain⟨ib,dl,cx,di,c5⟩:=info_parts Yh;obtain⟨ic,cF,cL,cZ,cy⟩:=info_parts qav;obtain⟨il,cP,cX,cE,da⟩:=info_parts qb1;obtain⟨i8,c9,cp,cn,ce⟩:=info_parts Ql;have bx:G≠[]:=List.length_pos_iff.1 (by rw[h0];unfold lvs;omega);have HF:=hid (Qo h.v kz z1 z2 bx h1);have aA:=hid (fun W:World=>qbH t h.l total ht he W);have hR:=qF he;have de:t.pn≤255:=by have:=(qn h.v).2.2.2.2.2.2.2.1;unfold TreeV.pn;omega
 have cj:=hR.len;have bp:=hR.most;have bS:=hid (QK he kz z1 z2 h0 h1);have bq:=hid (fun(r:Nat) (hr:r+1<(t.rowsOf total).length) (i:Nat) (hi:i<(t.upZ (r+1) (t.lvlZ kz z1 z2 G r)).length)=>qcY he kz z1 z2 h0 h1 hr rfl rfl hi);have cH:=hid (fun(W:World) (row:Nat) (i:Nat)=>Zd t h.l total ht (row:Int) i W);rw[show QR t.fn t.pn (lvs total t.ln)=t.rowsOf total from rfl]at aA;have cD:(t.rowsOf total).length≤255:=by omega
 obtain⟨va,vc,rfl,dx,dG, -⟩:=id hv;have bI:Below b0 w (w.alloc (.cells t.c 26)):=by rw[←ai];exact Br.alloc Nl _
 have am:=Wn w (.cells t.c 26);rw[ai]at am;obtain⟨RS,ca⟩:=Ex (t.rowsOf total);rw[ca]at aA cj cD bS bq⊢;clear h hv hw he bx h0 h1 hR bp de ca;unfold TreeV.val at*;go_enter Tryz.func65,Tryz.ntmps65
 go_upto_region 1 with(fail)
 generalize w.alloc (.cells t.c 26)=wA at*;go_wp2_with (refine L26 b0 rfl am ?_)
 refine(aA.out wA).mono ?_;rintro e wR ⟨rv,rfl,aB,aG⟩;have c3:b0<wA.heap.size:=(Ai am).1;have c8:=hid (qf am aG);have aL:=hid (bI.trans (aG.mono (show b0≤wA.heap.size by omega)));have dj:=aG.size;obtain⟨bR,cz⟩:=Ex wR.heap.size;have dE:b0<bR:=by omega
 have dt:=hid aB;obtain⟨ra,rn,rc,rfl⟩:=qs aB;have bo: ∃Z,ra=some ⟨Z,0,none⟩∧rn=RS.length∧Z<bR∧ ∀k,k<RS.length→wR.cell? ⟨Z,k,none⟩=some (.int .u64 (nth RS k)):=by
  obtain⟨Z,dY,e, -, -,h2,h3⟩:=Zt aB (by omega);simp only[Value.slice.injEq]at e;obtain⟨rfl,rfl, -⟩:=e;exact⟨Z,rfl,rfl,by omega,h3⟩
 obtain⟨Z,rfl,rfl,dg,bJ⟩:=bo;have cU:=hid bJ;have cC:=hid (HV.out.below (ai▸aL.out));clear aG am bI aA dj aB bJ dt HV c3;go_wp2_with fail
 go_loopw [10,11,12] (fun o x i wr=> ∃r q:Nat,i= .int .i64 q∧q=r+1∧q≤RS.length∧LevO w0 bR wr o (t.lvlsC kz z1 z2 G r)∧ListH wr x (t.lvlZ kz z1 z2 G r)∧(1≤r→ListO bR wr x (t.lvlZ kz z1 z2 G r))∧Below bR wR wr) (fun _ _ i _=>256 - (intOf i).toNat)
 case atStart=>exact⟨0,1,rfl,rfl,by omega,LevO.nil _ _ _,cC.out,fun h=>by omega,Below.refl _ _⟩
 case round=>
  obtain⟨r,q,rfl,hq,dW,aF,hx,ap,I⟩:=hrel;have dF:(RS.length:Int)≤255:=by omega
  by_cases b9:q<RS.length
  case pos=>
   rename World=>wq
   have dA:(q:Int)<RS.length:=by omega
   obtain⟨f1,f2,f3⟩:=HF.out r;have aq:=ze f3;have bl:=Zu HT.out.v q f1;have bb:nth RS q=(t.upZ q (t.lvlZ kz z1 z2 G r)).length:=by
    rw[←bS.out q b9,hq];exact TreeV.rowZ_length ..
   have dr:=hid (fun(i:Nat) (hi:i<(t.upZ q (t.lvlZ kz z1 z2 G r)).length)=>by have:=bq.out r (by omega) i (by rw[←hq];exact hi);rw[←hq]at this;exact this);have d0:=hid (fun i=>jB t q (t.lvlZ kz z1 z2 G r) i);have dp:=hid (show t.lvlZ kz z1 z2 G q=t.rowZ kz z1 z2 q (t.rootZ q (t.lvlZ kz z1 z2 G r).length) (t.upZ q (t.lvlZ kz z1 z2 G r)) (t.upZ q (t.lvlZ kz z1 z2 G r)).length by rw[hq];rfl);have cV:=hid (show t.lvlC kz z1 z2 G r=t.rowC kz z1 z2 q (t.rootZ q (t.lvlZ kz z1 z2 G r).length) (t.upZ q (t.lvlZ kz z1 z2 G r)) (t.upZ q (t.lvlZ kz z1 z2 G r)).length by rw[hq];rfl);have dZ:(t.upZ q (t.lvlZ kz z1 z2 G r)).length≤G.length:=Nat.le_trans bl.2 f2;have dR:=bl.1;have bT:=hid (show ∀a m,(jx (t.lvlZ kz z1 z2 G r) a m).length≤536870912 from fun a m=>by have:=qhI (t.lvlZ kz z1 z2 G r) a m;omega);have dJ:(t.lvlZ kz z1 z2 G r).length≤8388608:=by omega
   generalize t.upZ q (t.lvlZ kz z1 z2 G r)=J at*;generalize t.rootZ q (t.lvlZ kz z1 z2 G r).length=rt at*;generalize t.lvlZ kz z1 z2 G r=Lb at*;obtain⟨xa,xc,rfl,dv,dI, -⟩:=id hx;have cr:=hid hx;have aN:=hid aF;have HB:=hid I;have HQ:=hid hq;have dB:=hid bb;have bf:wq.cell? ⟨Z,q,none⟩=some (.int .u64 (nth RS q)):=(I.cell (p:=⟨Z,q,none⟩) dg).trans (cU.out q b9);rw[bb]at bf;obtain⟨U,bm⟩:=Ex wq.heap.size;have au:bR≤U:=by have:=I.size;omega
   have cT:=hid (qf c8.out (cz▸I));have cc:=hid (show Below w0.heap.size w0 wq from HW.out.trans ((aL.out.trans (I.mono (by omega))).mono cO));clear aF hx ap I hq bb bl f1 f2 f3 aq;go_wp2_with fail
   go_loopw [13,14,15] (fun s u i wr=> ∃j:Nat,i= .int .u64 j∧j≤J.length∧CallsO w0 U wr s (t.rowC kz z1 z2 q rt J j)∧ListO U wr u (t.rowZ kz z1 z2 q rt J j)∧Below U wq wr) (fun _ _ i _=>J.length - (intOf i).toNat)
   case atStart=>exact⟨0,rfl,Nat.zero_le _,CallsO.nil _ _ _,ListO.nil _ _,Below.refl _ _⟩
   case round=>
    obtain⟨j,rfl,hj,ac,ho,I⟩:=hrel;by_cases c7:j<J.length
    case pos=>
     have dK:(j:Int)<J.length:=by omega
     have dQ:(J.length:Int)≤16777216:=by omega
     have ck:wr.cell? ⟨Z,q,none⟩=some (.int .u64 (J.length:Nat)):=(I.cell (p:=⟨Z,q,none⟩) (show Z<U by omega)).trans bf;obtain⟨aD,a,b,aT,cR,bK,bX⟩:=dr.out j c7;have ah:=hid (fun W:World=>cH.out W q j);have bD:t.spotR total (q:Int) j=⟨q,j,a,b,decide (j+1=J.length),rt⟩:=by unfold TreeV.spotR;rw[if_pos ⟨HE.out,aD⟩];exact aT
     have bu:t.spotE total (q:Int) j=0:=by unfold TreeV.spotE;rw[if_neg (by simp[HE.out]),if_pos aD]
     rw[bD,bu]at ah;unfold SpotV.val at ah;simp only at ah
     have bM:=hid aD;have av:=hid aT;have bP:=hid (show qC J j=jx Lb a b from bX);obtain⟨ql,aI⟩: ∃q:Bool,decide (j+1=J.length)=q:=⟨_,rfl⟩;rw[aI]at ah av;have b4:=hid aI;have bc:wr.heap[b0]? =some (.cells t.c 26 (0,0)):=qf cT.out (bm▸I);have bZ:=hid (show Below w0.heap.size w0 wr from cc.out.trans (I.mono (by omega)));have aw:U≤wr.heap.size:=by have:=I.size;omega
     have dw:IntKind.u64.wrap ((j:Int)+1)=((j+1:Nat):Int):=u64_wrap_id _ (by omega) (by omega);have aC:=hid ac;have HO:=hid ho;have bQ:=hid I;have cl:Z<wr.heap.size:=by omega
     clear aD aT bX aI bD bu ac ho I;go_wp2_with (refine L26 b0 rfl bc ?_)
     refine(ah.out wr).mono ?_;rintro e w4 ⟨rfl,az⟩;have bG:=hid az;have cS:=az.size;have bA:=qf bc az;clear az;go_upto_region 13 with(first|((with_reducible show wpList _ _ _ (Oper.mk none (Op.store 96 _ _) _ _ _ _::_) _ _);refine wpList_store_row rfl 96 _ _ rfl w4.heap.size #[.int .i64 q,.int .u64 j,.int .u64 a,.int .u64 b,.bool ql,.bool rt] rfl rfl 96 _ (Wn _ _) (by kernel_rfl) rfl (by simp[Value.oneCell']) ?_))
     refine qm ?_;intro V hV;obtain⟨bs,aE⟩:=Ex w4.heap.size;have ay:V.heap[bs]? =some (.cells #[.int .i64 q,.int .u64 j,.int .u64 a,.int .u64 b,.bool ql,.bool rt] 96 (0,0)):=by rw[hV,←aE];exact setRow_heap _ _ _ _ _ _ (Wn _ _)
     have aM:Below bs w4 V:=by rw[hV,←aE];exact below_setRow (Br.alloc Nl _) Nl _
     rw[aE];have bW:V.heap[b0]? =some (.cells t.c 26 (0,0)):=(aM.block b0 (by omega)).trans bA;have ae:Below wr.heap.size wr V:=bG.out.trans (aM.mono (by omega));have aR:=hid ae;have co:=hid (bZ.out.trans (ae.mono (show w0.heap.size≤wr.heap.size by omega)));have bE:bs<V.heap.size:=(Ai ay).1;have cN:wr.heap.size≤V.heap.size:=ae.size;have df:=hid ay;have dd:=hid bW;obtain⟨bV,aX⟩:=Ex V.heap.size;have d2:V.cell? ⟨bs,2,none⟩=some (.int .u64 a):=qd ay 2;have aa:=hid aX;have b6:=hid ((cr.out.below (bm▸bQ.out)).below ae);clear ae aM hV bG bA bc cS aE ay bW aX;go_wp2_with fail
     go_loopw [18,19] (fun d k wr=> ∃m:Nat,k= .int .u64 m∧a≤m∧m≤b∧wr.ownsRow bV 5 1 d (jx Lb a m).length ((jx Lb a m).map qo)∧Below bV V wr) (fun _ k _=>b - (intOf k).toNat)
     case atStart=>exact⟨a,rfl,Nat.le_refl _,cR,by rw[qgm];exact Wo _ _ _ _,Below.refl _ _⟩
     case round=>
      obtain⟨m,rfl,bU,dO,ar,I⟩:=hrel;have e3:wr.cell? ⟨bs,3,none⟩=some (.int .u64 b):=(I.cell (p:=⟨bs,3,none⟩) (show bs<bV by rw[←aa.out];exact bE)).trans (qd df.out 3);have dH:bV≤wr.heap.size:=by have:=I.size;rw[aa.out]at this;exact this
      have dD:bs<wr.heap.size:=by rw[aa.out]at bE;omega
      by_cases dT:m<b
      case pos=>
       have dC:(m:Int)<b:=by omega
       obtain⟨dM,dN,e, -, -,h3⟩:=b6.out;obtain⟨g,off,rfl,h4,h5⟩:=h3.resolve_left (fun e=>by rw[e]at bK;simp at bK;omega);simp only[Value.slice.injEq]at e;obtain⟨rfl, -,rfl⟩:=e;obtain⟨xx,bO,bd⟩:=h5 m (by omega);obtain⟨xb,xd,rfl, -, -⟩:=bd.slice;have c0:wr.cell? ⟨g,off+m,none⟩=some (.slice xb (qC Lb m).length xd):=(I.cell (p:=⟨g,off+m,none⟩) (show g<bV by rw[←aa.out];exact h4)).trans bO;have d8:g<wr.heap.size:=by rw[aa.out]at h4;omega
       have HX:=hid (bd.below (aa.out.symm▸I)).src;have cG:=hid ar;have dh:=hid I;have aq:=bT.out a (m+1);rw[qb7 bU (by omega),List.length_append]at aq;have bC:=hid aq;have d9:(m:Int)<Lb.length:=by omega
       have d6:IntKind.u64.wrap ((m:Int)+1)=((m+1:Nat):Int):=u64_wrap_id _ (by omega) (by omega);clear bO bd h5 h4 h3 ar I aq;go_wp2_with (at_builtin;refine qU rfl _ _ _ rfl V bV aa.out.symm dh.out 5 i8 (.int .u8 0) 1 Tryz.underlying24 c9 cp cn ce rfl _ _ _ rfl cG.out _ _ _ rfl HX.out (by have:=bC.out;unfold maxLen;omega) (by have:=bC.out;omega) ?_;intro v' w' O dc)
       refine⟨⟨m+1,rfl,by omega,by omega,?_,dc⟩,by simp[intOf];omega⟩;rw[qb7 bU (by omega),List.length_append,List.map_append];exact O
      obtain rfl:m=b:=by omega
      rename World=>wd
      have cQ:wr.heap.size≤wd.heap.size:=by have:=I.size;omega
      have cw:wd.heap[b0]? =some (.cells t.c 26 (0,0)):=qf dd.out (aa.out.symm▸I);have bh:=hid (aR.out.trans (I.mono (show wr.heap.size≤bV by rw[←aa.out];exact cN)));have ak:Below w0.heap.size w0 wd:=bZ.out.trans (bh.out.mono (show w0.heap.size≤wr.heap.size by omega));have a3:=hid ak;have cb:OwnB bV wd u18 (qC J j):=by
       rw[bP.out];exact⟨qdZ b6.out.bounds,Q9 ar⟩
      obtain⟨ad,nd,kd,rfl⟩:=qs ar;have cI:=hid cb;have aZ:=hid (jm t total HE.out HT.out.l ht z1 z2 q j (by omega) (by omega) bM.out _ av.out ad nd kd wd (HT.out.s.below ak) (HT.out.p.below ak));unfold TreeV.val at aZ;have bt:(qC J j).length≤536870912:=by rw[bP.out];exact bT.out a _
      have cq:=hid bt;clear ar I ak cb bt;go_wp2_with (refine L26 b0 rfl cw ?_)
      refine aZ.out.mono ?_;rintro e w5 ⟨bv,rfl,aY,a4⟩;obtain⟨a5,n5,k5,rfl⟩:=qs aY;obtain⟨dk,a6,n6,k6,e6⟩:=qjD HT.out q (a3.out.trans (a4.mono (show w0.heap.size≤wd.heap.size by omega))) U;rw[e6]at dk⊢;have ch:=hid aY;have br:=hid a4;clear aY a4 aZ;go_upto_region 19 with(first|((with_reducible show wpList _ _ _ (Oper.mk none (Op.store 73 _ _) _ _ _ _::_) _ _);refine wpList_store_row rfl 73 _ _ rfl w5.heap.size (yX t.k (.slice a5 n5 k5) (.slice a6 n6 k6) ql (t.outN rt) (.slice ad nd kd)) rfl rfl 73 _ (Wn _ _) (by kernel_rfl) rfl (by simp[Value.oneCell',yX]) ?_))
      refine qm ?_;intro X hX;obtain⟨p,hp⟩:=Ex w5.heap.size;have bj:X.heap[p]? =some (.cells (yX t.k (.slice a5 n5 k5) (.slice a6 n6 k6) ql (t.outN rt) (.slice ad nd kd)) 73 (0,0)):=by rw[hX,←hp];exact setRow_heap _ _ _ _ _ _ (Wn _ _)
      have bi:Below p w5 X:=by rw[hX,←hp];exact below_setRow (Br.alloc Nl _) Nl _
      rw[hp];have dV:=br.out.size;have aU:=hid (show Below wd.heap.size wd X from br.out.trans (bi.mono (by omega)));have be:=hid (qi ch.out (fun g _ g2=>bi.block g (by omega)));have bF:KeepH w0 U X (.slice a6 n6 k6) (Y6 q kz):=by rw[←e6];exact(qjD HT.out q (a3.out.trans (aU.out.mono (by omega))) U).1
      have aV:=hid bF;have aS:=hid (show KeepH w0 U X (.slice ad nd kd) (qC J j) from .inl ((cI.out.le (show U≤bV by rw[←aa.out];omega)).kb (KB.of_below aU.out (Nat.zero_le _))));have al:=hid (bh.out.trans (aU.out.mono cQ));unfold yX at bj;clear hX hp bi bF;go_wp2_with (refine L73 p rfl bj ?_)
      refine(qbJ HT.out (row:=q) (at_:=j) (by omega) (by omega) ql rt (qC J j) (.slice ad nd kd) (.slice a5 n5 k5) (.slice a6 n6 k6) X _ be.out aV.out.hold aS.out.hold (by have:=cq.out;omega)).mono ?_;rintro e w6 ⟨u,rfl,hO,an⟩;obtain⟨a7,k7,rfl, -, -⟩:=hO.hold.slice;have dP:=an.size;have ba:U≤X.heap.size:=by have:=al.out.size;omega
      have aW:=hid (KB.of_below an ba);have b8:=qf bj an;have cA:=hid (hO.le ba);have ao:=hid (al.out.trans (an.mono (show wr.heap.size≤X.heap.size from al.out.size)));have c6:=hid (show CallAt w0 U w6 (t.callS kz z1 z2 q j ql rt (qC J j)) [.int .i64 t.k,.slice a5 n5 k5,.slice a6 n6 k6,.bool ql,.int .i64 (t.outN rt),.slice ad nd kd] from
       ⟨_,_,_,_,_,_,_,_,_,rfl,⟨(HT.out.okD (row:=q) (at_:=j) (by omega) (by omega)).2.2.1,(Q9 (ownsRow_le be.out (show U≤wd.heap.size by omega))).kb aW.out⟩,aV.out.kb (by omega) aW.out,aS.out.kb (by omega) aW.out⟩)
      obtain⟨cs,b5,ac,aK⟩:=aC.out;obtain⟨vs,S,aj⟩:=HO.out;rw[qV]at b5 ac aK;rw[TreeV.rowZ_length]at S aj;have dm:vs.length=j:=by have:=S.1;omega
      have bk:=hid (KB.of_below ao.out aw);have cB:=hid (fun i hi=>(aK i hi).kb (show w0.heap.size≤U by omega) bk.out);have db:=hid (fun i hi=>(aj i hi).kb bk.out);have aQ:=hid (qi ac (fun g _ g2=>ao.out.block g g2));have aH:=hid (qi S (fun g _ g2=>ao.out.block g g2));obtain⟨a8,n8,k8,rfl⟩:=Q4 ac;obtain⟨a9,n9,k9,rfl⟩:=qs S;have bz:t.node kz z1 z2 q j ql rt (qC J j)=t.node kz z1 z2 q j (decide (j+1=J.length)) rt (qC J j):=by rw[b4.out]
      have bH:t.callS kz z1 z2 q j ql rt (qC J j)=t.callS kz z1 z2 q j (decide (j+1=J.length)) rt (qC J j):=by rw[b4.out]
      have ct:=hid bz;have dn:=hid bH;generalize t.node kz z1 z2 q j ql rt (qC J j)=N at*;generalize t.callS kz z1 z2 q j ql rt (qC J j)=C at*;have du:=ao.out.size;have d3:p<w6.heap.size:=(Ai b8).1;clear an hO bz bH ac aK S aj aV aS be aC HO al aR co av bM ah;go_upto_region 21 with(first|(refine L73 p rfl b8 ?_)|((with_reducible show wpList _ _ _ (Oper.mk _ (Op.buildSlice _ _ _) _ _ _ _::_) _ _);refine Jc rfl _ rfl _ _ _ _ _ _ rfl ?_)|(at_builtin;refine QN rfl _ _ _ rfl U 73 (by decide) ic _ 6 96 Tryz.underlying111 cF cL cZ cy rfl (by decide) (.slice a8 n8 k8) j cs.flatten [.int .i64 t.k,.slice a5 n5 k5,.slice a6 n6 k6,.bool ql,.int .i64 (t.outN rt),.slice ad nd kd] _ rfl aQ.out rfl rfl (by simp[Value.oneCell']) (by unfold maxLen;omega) (by omega) (by omega) ?_;intro v' w' O ab ag))
      have aO:=hid (Q6 aH.out (Ym aQ.out aH.out (by decide) ag));have cY:=hid (show CallsO w0 U w' v' (t.rowC kz z1 z2 q rt J (j+1)) from by
       rw[zE,←dn.out];refine CallsO.snoc (w:=w6) (cs:=cs) (fun i hi=>?_) (by rw[qV];exact b5) c6.out (by rw[qV];exact O) (by omega) ab;rw[qV]at hi;exact cB.out i hi)
      have af:=hid ab;have dz:=ab.size;obtain⟨dU,d7,d4,rfl⟩:=Q4 O;have cm:=hid O;clear O ab ag;go_wp2_with (first|((with_reducible show wpList _ _ _ (Oper.mk _ (Op.buildSlice _ _ _) _ _ _ _::_) _ _);refine QS rfl _ rfl _ _ _ rfl ?_)|(at_builtin;refine QN rfl _ _ _ rfl U 24 (by decide) ib (.slice none 0 0) 1 24 Tryz.underlying67 dl cx di c5 rfl (by decide) (.slice a9 n9 k9) j vs [.slice a7 N.length k7] _ rfl aO.out rfl rfl (by simp[Value.oneCell']) (by unfold maxLen;omega) (by omega) (by omega) ?_;intro v7 w7 bn ax ci))
      refine⟨⟨j+1,rfl,by omega,?_,?_,(bQ.out.trans (ao.out.mono aw)).trans ((af.out.trans ax).below)⟩,by simp[intOf];omega⟩
      ·exact cY.out.kb (by omega) ax (Ym aO.out cm.out (by decide) ci)
      ·rw[zD,←ct.out];refine ListO.snoc (w:=w') (vs:=vs) (x:= .slice a7 N.length k7) (fun i hi=>?_) (by rw[TreeV.rowZ_length];exact dm) (cA.out.kb af.out) (by rw[TreeV.rowZ_length];exact bn) ax;rw[TreeV.rowZ_length]at hi;exact(db.out i hi).kb af.out
    obtain rfl:j=J.length:=by omega
    have ck:wr.cell? ⟨Z,q,none⟩=some (.int .u64 (J.length:Nat)):=(I.cell (p:=⟨Z,q,none⟩) (show Z<U by omega)).trans bf;have aw:U≤wr.heap.size:=by have:=I.size;omega
    have cl:Z<wr.heap.size:=by omega
    obtain⟨vs,S,aj⟩:=aN.out.below (show w0.heap.size≤wq.heap.size by omega) (bm▸I);have cu:=hid aj;rw[YF]at S;have bg:=hid S;have aC:=hid (ac.le au);have HO:=hid (ho.le au);have cM:=hid (HB.out.trans (I.mono au));obtain⟨cs, -,b7, -⟩:=ac;obtain⟨dL,aP, -⟩:=ho;have cd:=hid aP;obtain⟨a7,n7,k7,rfl⟩:=qs S;obtain⟨a8,n8,k8,rfl⟩:=Q4 b7;obtain⟨a9,n9,k9,rfl⟩:=qs aP;have d5:r+1≤256:=by have:=HQ.out;omega
    clear S aj I b7 aP;go_upto_region 23 with(first|((with_reducible show wpList _ _ _ (Oper.mk _ (Op.buildSlice _ _ _) _ _ _ _::_) _ _);refine qcq rfl _ rfl _ _ _ rfl ?_)|(at_builtin;refine QN rfl _ _ _ rfl bR 111 (by decide) il (.slice none 0 0) 1 24 Tryz.underlying114 cP cX cE da rfl (by decide) (.slice a7 n7 k7) r vs [.slice a8 n8 k8] _ rfl bg.out rfl rfl (by simp[Value.oneCell']) (by unfold maxLen;omega) (by omega) (by omega) ?_;intro v' w' O ab ag))
    have af:=hid ab;have b3:=hid ag;have c4:=hid O;have dS:IntKind.i64.wrap ((q:Int)+1)=((q+1:Nat):Int):=by rw[IntKind.wrap_i64]<;>omega
    clear O ab ag;go_wp2_with fail
    have bL:ListO bR w' (.slice a9 n9 k9) (t.lvlZ kz z1 z2 G q):=by
     rw[dp.out];exact HO.out.kb af.out (Ym bg.out cd.out (by decide) b3.out)
    refine⟨⟨q,q+1,rfl,rfl,by omega,?_,bL.hold,fun _=>bL,cM.out.trans af.out.below⟩,by simp[intOf];omega⟩;have e:=qaI t kz z1 z2 G r;rw[←HQ.out,cV.out]at e;rw[e];exact LevO.snoc (v:= .slice a7 n7 k7) (vs:=vs) (x:= .slice a8 n8 k8) (by rw[YF];exact bg.out) cu.out aC.out (by rw[YF];exact c4.out) (by omega) af.out b3.out
  obtain rfl:q=RS.length:=by omega
  have bY:r=RS.length - 1:=by omega
  have ap:ListO bR wr u11 (t.lvlZ kz z1 z2 G r):=ap (by omega);obtain⟨f1, -, -⟩:=HF.out r;have bw:=hid bY;obtain⟨g,cg,y,rfl,hg,hy,aJ⟩:=ap.get (i:=0) (List.length_pos_iff.2 f1);obtain⟨xb,xd,rfl, -, -⟩:=aJ.hold.slice;have cJ:=hid (aJ.le (show b0≤bR by omega));have aN:=hid (aF.le (show b0≤bR by omega));have HB:=hid (aL.out.trans (I.mono (show b0≤bR by omega)));have dy:bR≤wr.heap.size:=by have:=I.size;omega
  obtain⟨vs,S, -⟩:=aF;obtain⟨a7,n7,k7,rfl⟩:=qs S;have dX:0<(t.lvlZ kz z1 z2 G r).length:=List.length_pos_iff.2 f1;generalize (t.lvlZ kz z1 z2 G r).length=M at*;clear S ap aJ I hx bY f1;generalize hY:qC (t.lvlZ kz z1 z2 G r) 0=Y at*;have HY:=hid hY;clear hY;go_wp2_with fail
  refine qI (n:=6) (w0:=wr) (B:=wr.heap.size) [.v 90 (.slice a7 n7 k7),.v 91 (.slice (some ⟨g,0,none⟩) M cg),.z 92 g 0,.v 93 (.slice xb Y.length xd),.v 6 (.slice a7 n7 k7),.v 7 (.slice xb Y.length xd)] trivial Br.drew Nl ?_ ?_
  ·repeat' (with_reducible first|exact qB|refine qw ?_ ?_)
   all_goals
    intro AA x W hA hW cW cf D K hK;have dq:=hA.2 10 (by decide);conv at dq=>rhs;whnf
    have cK:=hA.2 11 (by decide);conv at cK=>rhs;whnf
    simp only[Q7,yk]at D;clear cf hA;first
    | go_simp
      exact hK _ _ BR rfl
    | have y0:=(hW.cell (p:=⟨g,0,none⟩) hg).trans hy
      have y1:g<W.heap.size:=by omega
      go_simp
      exact hK _ _ BR rfl
  intro x W hW cW _;refine qv ?_;simp only[QP,Act.put,Ls];have ea:wr.heap.size=wr.heap.size:=rfl;go_wp2
  go_ret2
  exact⟨_,_,rfl,by(try rw[ai]);(try rw[←bw.out]);exact aN.out.below (by omega) hW,by(try rw[ai]);(try rw[←bw.out]);rw[HY.out];exact cJ.out.kb (KB.of_below hW (Nat.zero_le _)),by(try rw[ai]);exact HB.out.trans (hW.mono (by omega))⟩
end Go.Proofs.YthjoojnlnlmljaaGreat
