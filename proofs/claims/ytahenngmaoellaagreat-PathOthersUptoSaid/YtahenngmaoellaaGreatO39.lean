/- Lemmas. No condition. -/
import Derived.Test.YtahenngmaoellaaGreatO37
import Derived.Test.YtahenngmaoellaaGreatO38
set_option linter.all false
set_option maxRecDepth 100000
set_option maxHeartbeats 0
namespace Go.Proofs.YtahenngmaoellaaGreat
open Go.ChangeShapes Go.WideShapes Go.ChangeAt Go.RowKit Go.Joins Go.Shelf Go.Maps
open Go.Lib (hid)
variable{L:List (List Int)}{a m:Nat}
attribute [local go_sem] Oper.semAt_some
def TreeV.lvlC (t:TreeV)(kz z1 z2:List Int)(L0:List (List Int))(r:Nat):List CallS:=t.rowC kz z1 z2 (r+1) (t.rootZ (r+1) (t.lvlZ kz z1 z2 L0 r).length) (t.upZ (r+1) (t.lvlZ kz z1 z2 L0 r)) (t.upZ (r+1) (t.lvlZ kz z1 z2 L0 r)).length
def TreeV.lvlsC (t:TreeV)(kz z1 z2:List Int)(L0:List (List Int))(m:Nat):List (List CallS):=(List.range m).map (t.lvlC kz z1 z2 L0)
theorem qaV (t:TreeV)(kz z1 z2:List Int)(o:List (List Int))(m:Nat):t.lvlsC kz z1 z2 o (m+1)=t.lvlsC kz z1 z2 o m++[t.lvlC kz z1 z2 o m]:=by simp[TreeV.lvlsC,List.range_succ]
theorem YQ (t:TreeV)(kz z1 z2:List Int)(o:List (List Int))(m:Nat):(t.lvlsC kz z1 z2 o m).length=m:=by simp[TreeV.lvlsC]
def jK (L:List (List Int))(a m:Nat):List Int:=((L.drop a).take (m - a)).flatten
theorem qcp (o:a<=m)(q:m<L.length):jK L a (m+1)=jK L a m++qC L m:=by
 unfold jK;rw[show m+1 - a=(m - a)+1 by omega,jT (by simp;omega),qaC,show a+(m - a)=m by omega]
theorem qgI (L:List (List Int))(a:Nat):jK L a a=[]:=by simp[jK]
theorem qh6 (L:List (List Int))(a m:Nat):(jK L a m).length<=L.flatten.length:=Y8 ((List.take_sublist _ _).trans (List.drop_sublist _ _))
theorem ListH.bounds {w:World}{v:Value}(h:ListH w v L): ∀l∈L,∀z∈l,0<=z/\z<=255:=by
 obtain⟨a,I,rfl, -, -,r⟩:=h;intro l o z D;rcases r with rfl|⟨g,off, -, -,G⟩
 ·cases o
 ·obtain⟨i,hi,rfl⟩:=List.mem_iff_getElem.1 o;obtain⟨x, -,q⟩:=G i hi;have e:qC L i=L[i]:=by unfold qC;simp[Lg,hi]
  rw[e]at q;exact q.1 z D
theorem qeg (h: ∀l∈L,∀z∈l,0<=z/\z<=255): ∀z∈jK L a m,0<=z/\z<=255:=by
 intro z r;obtain⟨l,q,o⟩:=List.mem_flatten.1 r;exact h l (List.mem_of_mem_drop (List.mem_of_mem_take q)) z o
theorem qgX (t:TreeV)(kz z1 z2:List Int)(total:Nat)(G:List (List Int))(v:Value)(w0 w:World)(h:TreeOk t kz z1 z2 w0)(he:t.err total=0)(hv:ListH w v G)(hw:Below w0.heap.size w0 w)(h0:G.length=lvs total t.ln)(h1: ∀z∈G,z.length<=64)(hn:G.length<=8388608)(ht:(total:Int)<=18446744073709551615):
  Calls Tryz.prog 69 #[t.val,.int .u64 total,v] w fun e w'=> ∃cv u,e= .returned (.tuple #[cv,u])/\LevO w0 w.heap.size w' cv (t.lvlsC kz z1 z2 G ((t.rowsOf total).length - 1))/\OwnB w.heap.size w' u (qC (t.lvlZ kz z1 z2 G ((t.rowsOf total).length - 1)) 0)/\Below w.heap.size w w':=by
 obtain⟨b0,ah⟩:=Ex w.heap.size;have cV:w0.heap.size<=b0:=by have:=hw.size;omega
 have HW:=hid hw;have HT:=hid h;have HV:=hid hv;have HE:=hid he;obtain⟨ib,dk,cH,dm,cP⟩:=info_parts Yn;obtain⟨ic,dg,cy,cQ,cY⟩:=info_parts qaH;obtain⟨il,cZ,dd,da,dj⟩:=info_parts qcj;obtain⟨i8,cw,cc,cn,ck⟩:=info_parts Qu;have bD:G≠[]:=List.length_pos_iff.1 (by rw[h0];unfold lvs;omega);have HF:=hid (Qo h.v kz z1 z2 bD h1);have az:=hid (fun W:World=>JJ t h.l total ht he W);have hR:=qG he;have c7:t.pn<=255:=by have:=(qn h.v).2.2.2.2.2.2.2.1;unfold TreeV.pn;omega
 have cj:=hR.len;have bn:=hR.most;have b5:=hid (QL he kz z1 z2 h0 h1);have bL:=hid (fun(r:Nat) (hr:r+1<(t.rowsOf total).length) (i:Nat) (hi:i<(t.upZ (r+1) (t.lvlZ kz z1 z2 G r)).length)=>qdh he kz z1 z2 h0 h1 hr rfl rfl hi);have cC:=hid (fun(W:World) (row:Nat) (i:Nat)=>yQ t h.l total ht (row:Int) i W);rw[show QT t.fn t.pn (lvs total t.ln)=t.rowsOf total from rfl]at az;have c3:(t.rowsOf total).length<=255:=by omega
 obtain⟨va,vc,rfl,dE,dv, -⟩:=id hv;have bP:Below b0 w (w.alloc (.cells t.c 26)):=by rw[<-ah];exact Br.alloc Nl _
 have aq:=Wn w (.cells t.c 26);rw[ah]at aq;obtain⟨RS,b4⟩:=Ex (t.rowsOf total);rw[b4]at az cj c3 b5 bL⊢;clear h hv hw he bD h0 h1 hR bn c7 b4;unfold TreeV.val at*;go_enter Tryz.func69,Tryz.ntmps69
 go_upto_region 1 with(fail)
 generalize w.alloc (.cells t.c 26)=wA at*;go_wp2_with (refine L26 b0 rfl aq ?_)
 refine(az.out wA).mono ?_;rintro e wR ⟨rv,rfl,aC,aB⟩;have c4:b0<wA.heap.size:=(Ai aq).1;have cT:=hid (qf aq aB);have bd:=hid (bP.trans (aB.mono (show b0<=wA.heap.size by omega)));have cz:=aB.size;obtain⟨bR,cN⟩:=Ex wR.heap.size;have dG:b0<bR:=by omega
 have di:=hid aC;obtain⟨ra,rn,rc,rfl⟩:=qr aC;have bo: ∃Z,ra=some ⟨Z,0,none⟩/\rn=RS.length/\Z<bR/\ ∀k,k<RS.length->wR.cell? ⟨Z,k,none⟩=some (.int .u64 (nth RS k)):=by
  obtain⟨Z,dP,e, -, -,h2,h3⟩:=YE aC (by omega);simp only[Value.slice.injEq]at e;obtain⟨rfl,rfl, -⟩:=e;exact⟨Z,rfl,rfl,by omega,h3⟩
 obtain⟨Z,rfl,rfl,cU,bW⟩:=bo;have cR:=hid bW;have df:=hid (HV.out.below (ah▸bd.out));clear aB aq bP az cz aC bW di HV c4;go_wp2_with fail
 go_loopw [10,11,12] (fun o x i wr=> ∃r q:Nat,i= .int .i64 q/\q=r+1/\q<=RS.length/\LevO w0 bR wr o (t.lvlsC kz z1 z2 G r)/\ListH wr x (t.lvlZ kz z1 z2 G r)/\(1<=r->ListO bR wr x (t.lvlZ kz z1 z2 G r))/\Below bR wR wr) (fun _ _ i _=>256 - (intOf i).toNat)
 case atStart=>exact⟨0,1,rfl,rfl,by omega,LevO.nil _ _ _,df.out,fun h=>by omega,Below.refl _ _⟩
 case round=>
  obtain⟨r,q,rfl,hq,d3,aF,hx,ar,I⟩:=hrel;have dC:(RS.length:Int)<=255:=by omega
  by_cases bE:q<RS.length
  case pos=>
   rename World=>wq
   have dx:(q:Int)<RS.length:=by omega
   obtain⟨f1,f2,f3⟩:=HF.out r;have ao:=zq f3;have bk:=ZG HT.out.v q f1;have bh:nth RS q=(t.upZ q (t.lvlZ kz z1 z2 G r)).length:=by
    rw[<-b5.out q bE,hq];exact TreeV.rowZ_length ..
   have dc:=hid (fun(i:Nat) (hi:i<(t.upZ q (t.lvlZ kz z1 z2 G r)).length)=>by have:=bL.out r (by omega) i (by rw[<-hq];exact hi);rw[<-hq]at this;exact this);have dN:=hid (fun i=>jP t q (t.lvlZ kz z1 z2 G r) i);have cI:=hid (show t.lvlZ kz z1 z2 G q=t.rowZ kz z1 z2 q (t.rootZ q (t.lvlZ kz z1 z2 G r).length) (t.upZ q (t.lvlZ kz z1 z2 G r)) (t.upZ q (t.lvlZ kz z1 z2 G r)).length by rw[hq];rfl);have c9:=hid (show t.lvlC kz z1 z2 G r=t.rowC kz z1 z2 q (t.rootZ q (t.lvlZ kz z1 z2 G r).length) (t.upZ q (t.lvlZ kz z1 z2 G r)) (t.upZ q (t.lvlZ kz z1 z2 G r)).length by rw[hq];rfl);have d9:(t.upZ q (t.lvlZ kz z1 z2 G r)).length<=G.length:=Nat.le_trans bk.2 f2;have d8:=bk.1;have b3:=hid (show ∀a m,(jK (t.lvlZ kz z1 z2 G r) a m).length<=536870912 from fun a m=>by have:=qh6 (t.lvlZ kz z1 z2 G r) a m;omega);have du:(t.lvlZ kz z1 z2 G r).length<=8388608:=by omega
   generalize t.upZ q (t.lvlZ kz z1 z2 G r)=J at*;generalize t.rootZ q (t.lvlZ kz z1 z2 G r).length=rt at*;generalize t.lvlZ kz z1 z2 G r=Lb at*;obtain⟨xa,xc,rfl,dy,dI, -⟩:=id hx;have c8:=hid hx;have aY:=hid aF;have HB:=hid I;have HQ:=hid hq;have dz:=hid bh;have aO:wq.cell? ⟨Z,q,none⟩=some (.int .u64 (nth RS q)):=(I.cell (p:=⟨Z,q,none⟩) cU).trans (cR.out q bE);rw[bh]at aO;obtain⟨U,bi⟩:=Ex wq.heap.size;have au:bR<=U:=by have:=I.size;omega
   have dp:=hid (qf cT.out (cN▸I));have cp:=hid (show Below w0.heap.size w0 wq from HW.out.trans ((bd.out.trans (I.mono (by omega))).mono cV));clear aF hx ar I hq bh bk f1 f2 f3 ao;go_wp2_with fail
   go_loopw [13,14,15] (fun s u i wr=> ∃j:Nat,i= .int .u64 j/\j<=J.length/\CallsO w0 U wr s (t.rowC kz z1 z2 q rt J j)/\ListO U wr u (t.rowZ kz z1 z2 q rt J j)/\Below U wq wr) (fun _ _ i _=>J.length - (intOf i).toNat)
   case atStart=>exact⟨0,rfl,Nat.zero_le _,CallsO.nil _ _ _,ListO.nil _ _,Below.refl _ _⟩
   case round=>
    obtain⟨j,rfl,hj,ac,ho,I⟩:=hrel;by_cases cr:j<J.length
    case pos=>
     have dB:(j:Int)<J.length:=by omega
     have dS:(J.length:Int)<=16777216:=by omega
     have cq:wr.cell? ⟨Z,q,none⟩=some (.int .u64 (J.length:Nat)):=(I.cell (p:=⟨Z,q,none⟩) (show Z<U by omega)).trans aO;obtain⟨ay,a,b,ba,cL,bJ,bS⟩:=dc.out j cr;have ai:=hid (fun W:World=>cC.out W q j);have ca:t.spotR total (q:Int) j=⟨q,j,a,b,decide (j+1=J.length),rt⟩:=by unfold TreeV.spotR;rw[if_pos ⟨HE.out,ay⟩];exact ba
     have bu:t.spotE total (q:Int) j=0:=by unfold TreeV.spotE;rw[if_neg (by simp[HE.out]),if_pos ay]
     rw[ca,bu]at ai;unfold SpotV.val at ai;simp only at ai
     have bT:=hid ay;have ax:=hid ba;have bQ:=hid (show qC J j=jK Lb a b from bS);obtain⟨ql,bl⟩: ∃q:Bool,decide (j+1=J.length)=q:=⟨_,rfl⟩;rw[bl]at ai ax;have bY:=hid bl;have aI:wr.heap[b0]? =some (.cells t.c 26 (0,0)):=qf dp.out (bi▸I);have bI:=hid (show Below w0.heap.size w0 wr from cp.out.trans (I.mono (by omega)));have av:U<=wr.heap.size:=by have:=I.size;omega
     have dA:IntKind.u64.wrap ((j:Int)+1)=((j+1:Nat):Int):=u64_wrap_id _ (by omega) (by omega);have aD:=hid ac;have HO:=hid ho;have bz:=hid I;have cf:Z<wr.heap.size:=by omega
     clear ay ba bS bl ca bu ac ho I;go_wp2_with (refine L26 b0 rfl aI ?_)
     refine(ai.out wr).mono ?_;rintro e w4 ⟨rfl,aA⟩;have bH:=hid aA;have cJ:=aA.size;have bF:=qf aI aA;clear aA;go_upto_region 13 with(first|((with_reducible show wpList _ _ _ (Oper.mk none (Op.store 96 _ _) _ _ _ _::_) _ _);refine wpList_store_row rfl 96 _ _ rfl w4.heap.size #[.int .i64 q,.int .u64 j,.int .u64 a,.int .u64 b,.bool ql,.bool rt] rfl rfl 96 _ (Wn _ _) (by kernel_rfl) rfl (by simp[Value.oneCell']) ?_))
     refine qm ?_;intro V hV;obtain⟨bs,aE⟩:=Ex w4.heap.size;have aG:V.heap[bs]? =some (.cells #[.int .i64 q,.int .u64 j,.int .u64 a,.int .u64 b,.bool ql,.bool rt] 96 (0,0)):=by rw[hV,<-aE];exact setRow_heap _ _ _ _ _ _ (Wn _ _)
     have aL:Below bs w4 V:=by rw[hV,<-aE];exact below_setRow (Br.alloc Nl _) Nl _
     rw[aE];have bA:V.heap[b0]? =some (.cells t.c 26 (0,0)):=(aL.block b0 (by omega)).trans bF;have af:Below wr.heap.size wr V:=bH.out.trans (aL.mono (by omega));have bc:=hid af;have co:=hid (bI.out.trans (af.mono (show w0.heap.size<=wr.heap.size by omega)));have bC:bs<V.heap.size:=(Ai aG).1;have cK:wr.heap.size<=V.heap.size:=af.size;have dq:=hid aG;have cA:=hid bA;obtain⟨bV,aV⟩:=Ex V.heap.size;have d2:V.cell? ⟨bs,2,none⟩=some (.int .u64 a):=qd aG 2;have aa:=hid aV;have b8:=hid ((c8.out.below (bi▸bz.out)).below af);clear af aL hV bH bF aI cJ aE aG bA aV;go_wp2_with fail
     go_loopw [18,19] (fun d k wr=> ∃m:Nat,k= .int .u64 m/\a<=m/\m<=b/\wr.ownsRow bV 5 1 d (jK Lb a m).length ((jK Lb a m).map qp)/\Below bV V wr) (fun _ k _=>b - (intOf k).toNat)
     case atStart=>exact⟨a,rfl,Nat.le_refl _,cL,by rw[qgI];exact Wo _ _ _ _,Below.refl _ _⟩
     case round=>
      obtain⟨m,rfl,bw,d6,am,I⟩:=hrel;have e3:wr.cell? ⟨bs,3,none⟩=some (.int .u64 b):=(I.cell (p:=⟨bs,3,none⟩) (show bs<bV by rw[<-aa.out];exact bC)).trans (qd dq.out 3);have dw:bV<=wr.heap.size:=by have:=I.size;rw[aa.out]at this;exact this
      have dK:bs<wr.heap.size:=by rw[aa.out]at bC;omega
      by_cases ea:m<b
      case pos=>
       have dH:(m:Int)<b:=by omega
       obtain⟨dU,d0,e, -, -,h3⟩:=b8.out;obtain⟨g,off,rfl,h4,h5⟩:=h3.resolve_left (fun e=>by rw[e]at bJ;simp at bJ;omega);simp only[Value.slice.injEq]at e;obtain⟨rfl, -,rfl⟩:=e;obtain⟨xx,bx,aK⟩:=h5 m (by omega);obtain⟨xb,xd,rfl, -, -⟩:=aK.slice;have c0:wr.cell? ⟨g,off+m,none⟩=some (.slice xb (qC Lb m).length xd):=(I.cell (p:=⟨g,off+m,none⟩) (show g<bV by rw[<-aa.out];exact h4)).trans bx;have dT:g<wr.heap.size:=by rw[aa.out]at h4;omega
       have HX:=hid (aK.below (aa.out.symm▸I)).src;have dn:=hid am;have c6:=hid I;have ao:=b3.out a (m+1);rw[qcp bw (by omega),List.length_append]at ao;have b6:=hid ao;have d5:(m:Int)<Lb.length:=by omega
       have dO:IntKind.u64.wrap ((m:Int)+1)=((m+1:Nat):Int):=u64_wrap_id _ (by omega) (by omega);clear bx aK h5 h4 h3 am I ao;go_wp2_with (at_builtin;refine Qb rfl _ _ _ rfl V bV aa.out.symm c6.out 5 i8 (.int .u8 0) 1 Tryz.underlying24 cw cc cn ck rfl _ _ _ rfl dn.out _ _ _ rfl HX.out (by have:=b6.out;unfold maxLen;omega) (by have:=b6.out;omega) ?_;intro v' w' O cE)
       refine⟨⟨m+1,rfl,by omega,by omega,?_,cE⟩,by simp[intOf];omega⟩;rw[qcp bw (by omega),List.length_append,List.map_append];exact O
      obtain rfl:m=b:=by omega
      rename World=>wd
      have dh:wr.heap.size<=wd.heap.size:=by have:=I.size;omega
      have cx:wd.heap[b0]? =some (.cells t.c 26 (0,0)):=qf cA.out (aa.out.symm▸I);have a4:=hid (bc.out.trans (I.mono (show wr.heap.size<=bV by rw[<-aa.out];exact cK)));have ak:Below w0.heap.size w0 wd:=bI.out.trans (a4.out.mono (show w0.heap.size<=wr.heap.size by omega));have be:=hid ak;have bt:OwnB bV wd u18 (qC J j):=by
       rw[bQ.out];exact⟨qeg b8.out.bounds,Yw am⟩
      obtain⟨ad,nd,kd,rfl⟩:=qr am;have de:=hid bt;have aW:=hid (jA t total HE.out HT.out.l ht z1 z2 q j (by omega) (by omega) bT.out _ ax.out ad nd kd wd (HT.out.s.below ak) (HT.out.p.below ak));unfold TreeV.val at aW;have bZ:(qC J j).length<=536870912:=by rw[bQ.out];exact b3.out a _
      have cd:=hid bZ;clear am I ak bt bZ;go_wp2_with (refine L26 b0 rfl cx ?_)
      refine aW.out.mono ?_;rintro e w5 ⟨bv,rfl,aZ,aM⟩;obtain⟨a5,n5,k5,rfl⟩:=qr aZ;obtain⟨cB,a6,n6,k6,e6⟩:=qjZ HT.out q (be.out.trans (aM.mono (show w0.heap.size<=wd.heap.size by omega))) U;rw[e6]at cB⊢;have cm:=hid aZ;have bM:=hid aM;clear aZ aM aW;go_upto_region 19 with(first|((with_reducible show wpList _ _ _ (Oper.mk none (Op.store 73 _ _) _ _ _ _::_) _ _);refine wpList_store_row rfl 73 _ _ rfl w5.heap.size (Yf t.k (.slice a5 n5 k5) (.slice a6 n6 k6) ql (t.outN rt) (.slice ad nd kd)) rfl rfl 73 _ (Wn _ _) (by kernel_rfl) rfl (by simp[Value.oneCell',Yf]) ?_))
      refine qm ?_;intro X hX;obtain⟨p,hp⟩:=Ex w5.heap.size;have aH:X.heap[p]? =some (.cells (Yf t.k (.slice a5 n5 k5) (.slice a6 n6 k6) ql (t.outN rt) (.slice ad nd kd)) 73 (0,0)):=by rw[hX,<-hp];exact setRow_heap _ _ _ _ _ _ (Wn _ _)
      have a3:Below p w5 X:=by rw[hX,<-hp];exact below_setRow (Br.alloc Nl _) Nl _
      rw[hp];have dQ:=bM.out.size;have bf:=hid (show Below wd.heap.size wd X from bM.out.trans (a3.mono (by omega)));have aN:=hid (qi cm.out (fun g _ g2=>a3.block g (by omega)));have b7:KeepH w0 U X (.slice a6 n6 k6) (yV q kz):=by rw[<-e6];exact(qjZ HT.out q (be.out.trans (bf.out.mono (by omega))) U).1
      have aX:=hid b7;have aQ:=hid (show KeepH w0 U X (.slice ad nd kd) (qC J j) from .inl ((de.out.le (show U<=bV by rw[<-aa.out];omega)).kb (KB.of_below bf.out (Nat.zero_le _))));have al:=hid (a4.out.trans (bf.out.mono dh));unfold Yf at aH;clear hX hp a3 b7;go_wp2_with (refine L73 p rfl aH ?_)
      refine(qbZ HT.out (row:=q) (at_:=j) (by omega) (by omega) ql rt (qC J j) (.slice ad nd kd) (.slice a5 n5 k5) (.slice a6 n6 k6) X _ aN.out aX.out.hold aQ.out.hold (by have:=cd.out;omega)).mono ?_;rintro e w6 ⟨u,rfl,hO,an⟩;obtain⟨a7,k7,rfl, -, -⟩:=hO.hold.slice;have d4:=an.size;have aJ:U<=X.heap.size:=by have:=al.out.size;omega
      have aS:=hid (KB.of_below an aJ);have br:=qf aH an;have cG:=hid (hO.le aJ);have ap:=hid (al.out.trans (an.mono (show wr.heap.size<=X.heap.size from al.out.size)));have cS:=hid (show CallAt w0 U w6 (t.callS kz z1 z2 q j ql rt (qC J j)) [.int .i64 t.k,.slice a5 n5 k5,.slice a6 n6 k6,.bool ql,.int .i64 (t.outN rt),.slice ad nd kd] from
       ⟨_,_,_,_,_,_,_,_,_,rfl,⟨(HT.out.okD (row:=q) (at_:=j) (by omega) (by omega)).2.2.1,(Yw (ownsRow_le aN.out (show U<=wd.heap.size by omega))).kb aS.out⟩,aX.out.kb (by omega) aS.out,aQ.out.kb (by omega) aS.out⟩)
      obtain⟨cs,bG,ac,aR⟩:=aD.out;obtain⟨vs,S,aj⟩:=HO.out;rw[qV]at bG ac aR;rw[TreeV.rowZ_length]at S aj;have c5:vs.length=j:=by have:=S.1;omega
      have bb:=hid (KB.of_below ap.out av);have cF:=hid (fun i hi=>(aR i hi).kb (show w0.heap.size<=U by omega) bb.out);have dt:=hid (fun i hi=>(aj i hi).kb bb.out);have bg:=hid (qi ac (fun g _ g2=>ap.out.block g g2));have bm:=hid (qi S (fun g _ g2=>ap.out.block g g2));obtain⟨a8,n8,k8,rfl⟩:=Q8 ac;obtain⟨a9,n9,k9,rfl⟩:=qr S;have bX:t.node kz z1 z2 q j ql rt (qC J j)=t.node kz z1 z2 q j (decide (j+1=J.length)) rt (qC J j):=by rw[bY.out]
      have cb:t.callS kz z1 z2 q j ql rt (qC J j)=t.callS kz z1 z2 q j (decide (j+1=J.length)) rt (qC J j):=by rw[bY.out]
      have cM:=hid bX;have cu:=hid cb;generalize t.node kz z1 z2 q j ql rt (qC J j)=N at*;generalize t.callS kz z1 z2 q j ql rt (qC J j)=C at*;have dJ:=ap.out.size;have dR:p<w6.heap.size:=(Ai br).1;clear an hO bX cb ac aR S aj aX aQ aN aD HO al bc co ax bT ai;go_upto_region 21 with(first|(refine L73 p rfl br ?_)|((with_reducible show wpList _ _ _ (Oper.mk _ (Op.buildSlice _ _ _) _ _ _ _::_) _ _);refine Jo rfl _ rfl _ _ _ _ _ _ rfl ?_)|(at_builtin;refine QO rfl _ _ _ rfl U 73 (by decide) ic _ 6 96 Tryz.underlying115 dg cy cQ cY rfl (by decide) (.slice a8 n8 k8) j cs.flatten [.int .i64 t.k,.slice a5 n5 k5,.slice a6 n6 k6,.bool ql,.int .i64 (t.outN rt),.slice ad nd kd] _ rfl bg.out rfl rfl (by simp[Value.oneCell']) (by unfold maxLen;omega) (by omega) (by omega) ?_;intro v' w' O ab ag))
      have aU:=hid (ya bm.out (Yt bg.out bm.out (by decide) ag));have dl:=hid (show CallsO w0 U w' v' (t.rowC kz z1 z2 q rt J (j+1)) from by
       rw[zO,<-cu.out];refine CallsO.snoc (w:=w6) (cs:=cs) (fun i hi=>?_) (by rw[qV];exact bG) cS.out (by rw[qV];exact O) (by omega) ab;rw[qV]at hi;exact cF.out i hi)
      have ae:=hid ab;have dF:=ab.size;obtain⟨dX,dW,dY,rfl⟩:=Q8 O;have cl:=hid O;clear O ab ag;go_wp2_with (first|((with_reducible show wpList _ _ _ (Oper.mk _ (Op.buildSlice _ _ _) _ _ _ _::_) _ _);refine QU rfl _ rfl _ _ _ rfl ?_)|(at_builtin;refine QO rfl _ _ _ rfl U 24 (by decide) ib (.slice none 0 0) 1 24 Tryz.underlying67 dk cH dm cP rfl (by decide) (.slice a9 n9 k9) j vs [.slice a7 N.length k7] _ rfl aU.out rfl rfl (by simp[Value.oneCell']) (by unfold maxLen;omega) (by omega) (by omega) ?_;intro v7 w7 bp aw ci))
      refine⟨⟨j+1,rfl,by omega,?_,?_,(bz.out.trans (ap.out.mono av)).trans ((ae.out.trans aw).below)⟩,by simp[intOf];omega⟩
      ·exact dl.out.kb (by omega) aw (Yt aU.out cl.out (by decide) ci)
      ·rw[zN,<-cM.out];refine ListO.snoc (w:=w') (vs:=vs) (x:= .slice a7 N.length k7) (fun i hi=>?_) (by rw[TreeV.rowZ_length];exact c5) (cG.out.kb ae.out) (by rw[TreeV.rowZ_length];exact bp) aw;rw[TreeV.rowZ_length]at hi;exact(dt.out i hi).kb ae.out
    obtain rfl:j=J.length:=by omega
    have cq:wr.cell? ⟨Z,q,none⟩=some (.int .u64 (J.length:Nat)):=(I.cell (p:=⟨Z,q,none⟩) (show Z<U by omega)).trans aO;have av:U<=wr.heap.size:=by have:=I.size;omega
    have cf:Z<wr.heap.size:=by omega
    obtain⟨vs,S,aj⟩:=aY.out.below (show w0.heap.size<=wq.heap.size by omega) (bi▸I);have cX:=hid aj;rw[YQ]at S;have bj:=hid S;have aD:=hid (ac.le au);have HO:=hid (ho.le au);have cW:=hid (HB.out.trans (I.mono au));obtain⟨cs, -,bO, -⟩:=ac;obtain⟨d7,aT, -⟩:=ho;have ch:=hid aT;obtain⟨a7,n7,k7,rfl⟩:=qr S;obtain⟨a8,n8,k8,rfl⟩:=Q8 bO;obtain⟨a9,n9,k9,rfl⟩:=qr aT;have dZ:r+1<=256:=by have:=HQ.out;omega
    clear S aj I bO aT;go_upto_region 23 with(first|((with_reducible show wpList _ _ _ (Oper.mk _ (Op.buildSlice _ _ _) _ _ _ _::_) _ _);refine qcH rfl _ rfl _ _ _ rfl ?_)|(at_builtin;refine QO rfl _ _ _ rfl bR 115 (by decide) il (.slice none 0 0) 1 24 Tryz.underlying118 cZ dd da dj rfl (by decide) (.slice a7 n7 k7) r vs [.slice a8 n8 k8] _ rfl bj.out rfl rfl (by simp[Value.oneCell']) (by unfold maxLen;omega) (by omega) (by omega) ?_;intro v' w' O ab ag))
    have ae:=hid ab;have bU:=hid ag;have db:=hid O;have dM:IntKind.i64.wrap ((q:Int)+1)=((q+1:Nat):Int):=by rw[IntKind.wrap_i64]<;>omega
    clear O ab ag;go_wp2_with fail
    have bK:ListO bR w' (.slice a9 n9 k9) (t.lvlZ kz z1 z2 G q):=by
     rw[cI.out];exact HO.out.kb ae.out (Yt bj.out ch.out (by decide) bU.out)
    refine⟨⟨q,q+1,rfl,rfl,by omega,?_,bK.hold,fun _=>bK,cW.out.trans ae.out.below⟩,by simp[intOf];omega⟩;have e:=qaV t kz z1 z2 G r;rw[<-HQ.out,c9.out]at e;rw[e];exact LevO.snoc (v:= .slice a7 n7 k7) (vs:=vs) (x:= .slice a8 n8 k8) (by rw[YQ];exact bj.out) cX.out aD.out (by rw[YQ];exact db.out) (by omega) ae.out bU.out
  obtain rfl:q=RS.length:=by omega
  have bq:r=RS.length - 1:=by omega
  have ar:ListO bR wr u11 (t.lvlZ kz z1 z2 G r):=ar (by omega);obtain⟨f1, -, -⟩:=HF.out r;have b9:=hid bq;obtain⟨g,cg,y,rfl,hg,hy,aP⟩:=ar.get (i:=0) (List.length_pos_iff.2 f1);obtain⟨xb,xd,rfl, -, -⟩:=aP.hold.slice;have cD:=hid (aP.le (show b0<=bR by omega));have aY:=hid (aF.le (show b0<=bR by omega));have HB:=hid (bd.out.trans (I.mono (show b0<=bR by omega)));have dD:bR<=wr.heap.size:=by have:=I.size;omega
  obtain⟨vs,S, -⟩:=aF;obtain⟨a7,n7,k7,rfl⟩:=qr S;have dL:0<(t.lvlZ kz z1 z2 G r).length:=List.length_pos_iff.2 f1;generalize (t.lvlZ kz z1 z2 G r).length=M at*;clear S ar aP I hx bq f1;generalize hY:qC (t.lvlZ kz z1 z2 G r) 0=Y at*;have HY:=hid hY;clear hY;go_wp2_with fail
  refine qE (n:=6) (w0:=wr) (B:=wr.heap.size) [.v 90 (.slice a7 n7 k7),.v 91 (.slice (some ⟨g,0,none⟩) M cg),.z 92 g 0,.v 93 (.slice xb Y.length xd),.v 6 (.slice a7 n7 k7),.v 7 (.slice xb Y.length xd)] trivial Br.drew Nl ?_ ?_
  ·repeat' (with_reducible first|exact qz|refine qx ?_ ?_)
   all_goals
    intro AA x W hA hW cO ce D K hK;have ct:=hA.2 10 (by decide);conv at ct=>rhs;whnf
    have dr:=hA.2 11 (by decide);conv at dr=>rhs;whnf
    simp only[QS,yc]at D;clear ce hA;first
    | go_simp
      exact hK _ _ BR rfl
    | have y0:=(hW.cell (p:=⟨g,0,none⟩) hg).trans hy
      have y1:g<W.heap.size:=by omega
      go_simp
      exact hK _ _ BR rfl
  intro x W hW cO _;refine qw ?_;simp only[QG,Act.put,Ls];have dV:wr.heap.size=wr.heap.size:=rfl;go_wp2
  go_ret2
  exact⟨_,_,rfl,by(try rw[ah]);(try rw[<-b9.out]);exact aY.out.below (by omega) hW,by(try rw[ah]);(try rw[<-b9.out]);rw[HY.out];exact cD.out.kb (KB.of_below hW (Nat.zero_le _)),by(try rw[ah]);exact HB.out.trans (hW.mono (by omega))⟩
