/- The rows above the leaves, by the reference. No condition. -/
import Derived.Test.YthjoojnlnlmljaaGreatF33
import Derived.Test.YthjoojnlnlmljaaGreatF36
import Derived.Test.YthjoojnlnlmljaaGreatF05
import Derived.Test.YthjoojnlnlmljaaGreatF37
import Derived.Test.YthjoojnlnlmljaaGreatF32
import Derived.Maps.AppendAt
import Derived.Test.YthjoojnlnlmljaaGreatF31
import Derived.Laws.CopyOwn
set_option linter.all false
set_option maxRecDepth 100000
set_option maxHeartbeats 8000000
namespace Go.Proofs.YthjoojnlnlmljaaGreat
open Go.ChangeShapes Go.WideShapes Go.ChangeAt Go.RowKit Go.Joins Go.Shelf Go.Maps
open Go.Lib (hid)
attribute [local go_sem] Oper.semAt_some
def TreeV.lvlC (t:TreeV)(kz z1 z2:List Int)(L0:List (List Int))(r:Nat):List CallS:=t.rowC kz z1 z2 (r+1) (t.rootZ (r+1) (t.lvlZ kz z1 z2 L0 r).length) (t.upZ (r+1) (t.lvlZ kz z1 z2 L0 r)) (t.upZ (r+1) (t.lvlZ kz z1 z2 L0 r)).length
def TreeV.lvlsC (t:TreeV)(kz z1 z2:List Int)(L0:List (List Int))(m:Nat):List (List CallS):=(List.range m).map (t.lvlC kz z1 z2 L0)
theorem JP (t:TreeV)(kz z1 z2:List Int)(L0:List (List Int))(m:Nat):t.lvlsC kz z1 z2 L0 (m+1)=t.lvlsC kz z1 z2 L0 m++[t.lvlC kz z1 z2 L0 m]:=by simp[TreeV.lvlsC,List.range_succ]
theorem yZ (t:TreeV)(kz z1 z2:List Int)(L0:List (List Int))(m:Nat):(t.lvlsC kz z1 z2 L0 m).length=m:=by simp[TreeV.lvlsC]
def ZO (L:List (List Int))(a m:Nat):List Int:=((L.drop a).take (m - a)).flatten
theorem qa7 {L:List (List Int)}{a m:Nat}(q:a≤m)(o:m<L.length):ZO L a (m+1)=ZO L a m++Qi L m:=by
 unfold ZO;rw[show m+1 - a=(m - a)+1 by omega,Jt (by simp;omega),qf6,show a+(m - a)=m by omega]
theorem qeZ (L:List (List Int))(a:Nat):ZO L a a=[]:=by simp[ZO]
theorem qgj (L:List (List Int))(a m:Nat):(ZO L a m).length≤L.flatten.length:=zl ((List.take_sublist _ _).trans (List.drop_sublist _ _))
theorem ListH.bounds {w:World}{v:Value}{L:List (List Int)}(h:ListH w v L): ∀l∈L,∀z∈l,0≤z∧z≤255:=by
 obtain⟨a,O,rfl, -, -,G⟩:=h;intro l o z J;rcases G with rfl|⟨g,off, -, -,I⟩
 ·cases o
 ·obtain⟨i,D,rfl⟩:=List.mem_iff_getElem.1 o;obtain⟨x, -,q⟩:=I i D;have e:Qi L i=L[i]:=by unfold Qi;simp[Lg,D]
  rw[e]at q;exact q.1 z J
theorem qcS {L:List (List Int)}{a m:Nat}(h: ∀l∈L,∀z∈l,0≤z∧z≤255): ∀z∈ZO L a m,0≤z∧z≤255:=by
 intro z q;obtain⟨l,D,o⟩:=List.mem_flatten.1 q;exact h l (List.mem_of_mem_drop (List.mem_of_mem_take D)) z o
theorem qfd (t:TreeV)(kz z1 z2:List Int)(total:Nat)(L0:List (List Int))(v:Value)(w0 w:World)(h:TreeOk t kz z1 z2 w0)(he:t.err total=0)(hv:ListH w v L0)(hw:Below w0.heap.size w0 w)(h0:L0.length=lvs total t.ln)(h1: ∀z∈L0,z.length≤64)(hn:L0.length≤8388608)(ht:(total:Int)≤18446744073709551615):
  Calls Tryz.prog 65 #[t.val,.int .u64 total,v] w fun e w'=> ∃cv u,e= .returned (.tuple #[cv,u])∧LevO w0 w.heap.size w' cv (t.lvlsC kz z1 z2 L0 ((t.rowsOf total).length - 1))∧OwnB w.heap.size w' u (Qi (t.lvlZ kz z1 z2 L0 ((t.rowsOf total).length - 1)) 0)∧Below w.heap.size w w':=by
 obtain⟨b0,aj⟩:=Ex w.heap.size;have dj:w0.heap.size≤b0:=by have:=hw.size;omega
 have HW:=hid hw;have HT:=hid h;have HV:=hid hv;have HE:=hid he;obtain⟨ib,cG,db,dp,c6⟩:=info_parts Za;obtain⟨ic,da,cw,cA,cB⟩:=info_parts qb0;obtain⟨il,cN,dk,cV,cF⟩:=info_parts qa0;obtain⟨i8,c9,cj,cn,cm⟩:=info_parts Qy;have bS:L0≠[]:=List.length_pos_iff.1 (by rw[h0];unfold lvs;omega);have HF:=hid (QO h.v kz z1 z2 bS h1);have az:=hid (fun W:World=>qaH t h.l total ht he W);have hR:=qM he;have dc:t.pn≤255:=by have:=(qq h.v).2.2.2.2.2.2.2.1;unfold TreeV.pn;omega
 have co:=hR.len;have bo:=hR.most;have b5:=hid (QV he kz z1 z2 h0 h1);have bT:=hid (fun(r:Nat) (hr:r+1<(t.rowsOf total).length) (i:Nat) (hi:i<(t.upZ (r+1) (t.lvlZ kz z1 z2 L0 r)).length)=>qbU he kz z1 z2 h0 h1 hr rfl rfl hi);have dh:=hid (fun(W:World) (row:Nat) (i:Nat)=>JV t h.l total ht (row:Int) i W);rw[show Qe t.fn t.pn (lvs total t.ln)=t.rowsOf total from rfl]at az;have cP:(t.rowsOf total).length≤255:=by omega
 obtain⟨va,vc,rfl,dJ,dK, -⟩:=id hv;have bq:Below b0 w (w.alloc (.cells #[.int .i64 t.k,.int .i64 t.d,.int .i64 t.f,.int .i64 t.p,.int .u32 t.l,.int .i64 t.i,.slice t.ka t.kl t.kc,.slice t.sa t.sl t.sc,.slice t.pa t.pl t.pc] 26)):=by rw[←aj];exact Br.alloc Nl _
 have ao:=Wn w (.cells #[.int .i64 t.k,.int .i64 t.d,.int .i64 t.f,.int .i64 t.p,.int .u32 t.l,.int .i64 t.i,.slice t.ka t.kl t.kc,.slice t.sa t.sl t.sc,.slice t.pa t.pl t.pc] 26);rw[aj]at ao;obtain⟨RS,b3⟩:=Ex (t.rowsOf total);rw[b3]at az co cP b5 bT⊢;clear h hv hw he bS h0 h1 hR bo dc b3;unfold TreeV.val at*;go_enter Tryz.func65,Tryz.ntmps65
 go_upto_region 1 with(fail)
 generalize w.alloc (.cells #[.int .i64 t.k,.int .i64 t.d,.int .i64 t.f,.int .i64 t.p,.int .u32 t.l,.int .i64 t.i,.slice t.ka t.kl t.kc,.slice t.sa t.sl t.sc,.slice t.pa t.pl t.pc] 26)=wA at*;go_wp2_with ((with_reducible show wpList _ _ _ (Oper.mk _ (Op.load 26 _) _ _ _ _::_) _ _);refine wpList_load_row rfl 26 _ rfl b0 rfl _ _ _ _ ao Tryz.underlying26 rfl (by kernel_rfl) ?_)
 refine(az.out wA).mono ?_;rintro e wR ⟨rv,rfl,ay,aD⟩;have dg:b0<wA.heap.size:=(Ai ao).1;have cK:=hid (qe ao aD);have bf:=hid (bq.trans (aD.mono (show b0≤wA.heap.size by omega)));have c8:=aD.size;obtain⟨bR,cr⟩:=Ex wR.heap.size;have dv:b0<bR:=by omega
 have cR:=hid ay;obtain⟨ra,rn,rc,rfl⟩:=qu ay;have bn: ∃Z,ra=some ⟨Z,0,none⟩∧rn=RS.length∧Z<bR∧ ∀k,k<RS.length→wR.cell? ⟨Z,k,none⟩=some (.int .u64 (nth RS k)):=by
  obtain⟨Z,d9,e, -, -,h2,h3⟩:=zE ay (by omega);simp only[Value.slice.injEq]at e;obtain⟨rfl,rfl, -⟩:=e;exact⟨Z,rfl,rfl,by omega,h3⟩
 obtain⟨Z,rfl,rfl,cE,b6⟩:=bn;have cT:=hid b6;have de:=hid (HV.out.below (aj▸bf.out));clear aD ao bq az c8 ay b6 cR HV dg;go_wp2_with fail
 go_loopw [10,11,12] (fun o x i wr=> ∃r q:Nat,i= .int .i64 (q:Nat)∧q=r+1∧q≤RS.length∧LevO w0 bR wr o (t.lvlsC kz z1 z2 L0 r)∧ListH wr x (t.lvlZ kz z1 z2 L0 r)∧(1≤r→ListO bR wr x (t.lvlZ kz z1 z2 L0 r))∧Below bR wR wr) (fun _ _ i _=>256 - (intOf i).toNat)
 case atStart=>exact⟨0,1,rfl,rfl,by omega,LevO.nil _ _ _,de.out,fun h=>by omega,Below.refl _ _⟩
 case round=>
  obtain⟨r,q,rfl,hq,d0,aF,hx,aq,G⟩:=hrel;have du:(RS.length:Int)≤255:=by omega
  by_cases bJ:q<RS.length
  case pos=>
   rename World=>wq
   have dz:(q:Int)<RS.length:=by omega
   obtain⟨f1,f2,f3⟩:=HF.out r;have an:=zF f3;have bh:=jz HT.out.v q f1;have aT:nth RS q=(t.upZ q (t.lvlZ kz z1 z2 L0 r)).length:=by
    rw[←b5.out q bJ,hq];exact Qo ..
   have dm:=hid (fun(i:Nat) (hi:i<(t.upZ q (t.lvlZ kz z1 z2 L0 r)).length)=>by have:=bT.out r (by omega) i (by rw[←hq];exact hi);rw[←hq]at this;exact this);have dO:=hid (fun i=>qbf t q (t.lvlZ kz z1 z2 L0 r) i);have di:=hid (show t.lvlZ kz z1 z2 L0 q=t.rowZ kz z1 z2 q (t.rootZ q (t.lvlZ kz z1 z2 L0 r).length) (t.upZ q (t.lvlZ kz z1 z2 L0 r)) (t.upZ q (t.lvlZ kz z1 z2 L0 r)).length by rw[hq];rfl);have cX:=hid (show t.lvlC kz z1 z2 L0 r=t.rowC kz z1 z2 q (t.rootZ q (t.lvlZ kz z1 z2 L0 r).length) (t.upZ q (t.lvlZ kz z1 z2 L0 r)) (t.upZ q (t.lvlZ kz z1 z2 L0 r)).length by rw[hq];rfl);have dX:(t.upZ q (t.lvlZ kz z1 z2 L0 r)).length≤L0.length:=Nat.le_trans bh.2 f2;have dZ:=bh.1;have bL:=hid (show ∀a m,(ZO (t.lvlZ kz z1 z2 L0 r) a m).length≤536870912 from fun a m=>by have:=qgj (t.lvlZ kz z1 z2 L0 r) a m;omega);have dI:(t.lvlZ kz z1 z2 L0 r).length≤8388608:=by omega
   generalize t.upZ q (t.lvlZ kz z1 z2 L0 r)=I at*;generalize t.rootZ q (t.lvlZ kz z1 z2 L0 r).length=U at*;generalize t.lvlZ kz z1 z2 L0 r=Lb at*;obtain⟨xa,xc,rfl,dH,dB, -⟩:=id hx;have cz:=hid hx;have aU:=hid aF;have HB:=hid G;have HQ:=hid hq;have dC:=hid aT;have aO:wq.cell? ⟨Z,q,none⟩=some (.int .u64 (nth RS q)):=(G.cell (p:=⟨Z,q,none⟩) cE).trans (cT.out q bJ);rw[aT]at aO;obtain⟨S,aW⟩:=Ex wq.heap.size;have ax:bR≤S:=by have:=G.size;omega
   have cS:=hid (qe cK.out (cr▸G));have ch:=hid (show Below w0.heap.size w0 wq from HW.out.trans ((bf.out.trans (G.mono (by omega))).mono dj));clear aF hx aq G hq aT bh f1 f2 f3 an;go_wp2_with fail
   go_loopw [13,14,15] (fun s u i wr=> ∃j:Nat,i= .int .u64 (j:Nat)∧j≤I.length∧CallsO w0 S wr s (t.rowC kz z1 z2 q U I j)∧ListO S wr u (t.rowZ kz z1 z2 q U I j)∧Below S wq wr) (fun _ _ i _=>I.length - (intOf i).toNat)
   case atStart=>exact⟨0,rfl,Nat.zero_le _,CallsO.nil _ _ _,ListO.nil _ _,Below.refl _ _⟩
   case round=>
    obtain⟨j,rfl,hj,ac,ho,G⟩:=hrel;by_cases cu:j<I.length
    case pos=>
     have dA:(j:Int)<I.length:=by omega
     have dR:(I.length:Int)≤16777216:=by omega
     have cd:wr.cell? ⟨Z,q,none⟩=some (.int .u64 (I.length:Nat)):=(G.cell (p:=⟨Z,q,none⟩) (show Z<S by omega)).trans aO;obtain⟨aA,a,b,bc,dr,bx,bZ⟩:=dm.out j cu;have ah:=hid (fun W:World=>dh.out W q j);have b4:t.spotR total (q:Int) j=⟨q,j,a,b,decide (j+1=I.length),U⟩:=by unfold TreeV.spotR;rw[if_pos ⟨HE.out,aA⟩];exact bc
     have ca:t.spotE total (q:Int) j=0:=by unfold TreeV.spotE;rw[if_neg (by simp[HE.out]),if_pos aA]
     rw[b4,ca]at ah;unfold SpotV.val at ah;simp only at ah
     have bz:=hid aA;have av:=hid bc;have bF:=hid (show Qi I j=ZO Lb a b from bZ);obtain⟨ql,ba⟩: ∃q:Bool,decide (j+1=I.length)=q:=⟨_,rfl⟩;rw[ba]at ah av;have bH:=hid ba;have aI:wr.heap[b0]? =some (.cells #[.int .i64 t.k,.int .i64 t.d,.int .i64 t.f,.int .i64 t.p,.int .u32 t.l,.int .i64 t.i,.slice t.ka t.kl t.kc,.slice t.sa t.sl t.sc,.slice t.pa t.pl t.pc] 26 (0,0)):=qe cS.out (aW▸G);have bI:=hid (show Below w0.heap.size w0 wr from ch.out.trans (G.mono (by omega)));have aw:S≤wr.heap.size:=by have:=G.size;omega
     have dD:IntKind.u64.wrap ((j:Int)+1)=((j+1:Nat):Int):=u64_wrap_id _ (by omega) (by omega);have aC:=hid ac;have HO:=hid ho;have bC:=hid G;have cc:Z<wr.heap.size:=by omega
     clear aA bc bZ ba b4 ca ac ho G;go_wp2_with ((with_reducible show wpList _ _ _ (Oper.mk _ (Op.load 26 _) _ _ _ _::_) _ _);refine wpList_load_row rfl 26 _ rfl b0 rfl _ _ _ _ aI Tryz.underlying26 rfl (by kernel_rfl) ?_)
     refine(ah.out wr).mono ?_;rintro e w4 ⟨rfl,aG⟩;have bX:=hid aG;have cL:=aG.size;have bW:=qe aI aG;clear aG;go_upto_region 13 with(first|((with_reducible show wpList _ _ _ (Oper.mk none (Op.store 96 _ _) _ _ _ _::_) _ _);refine wpList_store_row rfl 96 _ _ rfl w4.heap.size #[.int .i64 (q:Nat),.int .u64 (j:Nat),.int .u64 (a:Nat),.int .u64 (b:Nat),.bool ql,.bool U] rfl rfl 96 _ (Wn _ _) (by kernel_rfl) rfl (by simp[Value.oneCell']) ?_))
     refine qj ?_;intro V hV;obtain⟨bs,aE⟩:=Ex w4.heap.size;have aB:V.heap[bs]? =some (.cells #[.int .i64 (q:Nat),.int .u64 (j:Nat),.int .u64 (a:Nat),.int .u64 (b:Nat),.bool ql,.bool U] 96 (0,0)):=by rw[hV,←aE];exact setRow_heap _ _ _ _ _ _ (Wn _ _)
     have bi:Below bs w4 V:=by rw[hV,←aE];exact below_setRow (Br.alloc Nl _) Nl _
     rw[aE];have br:V.heap[b0]? =some (.cells #[.int .i64 t.k,.int .i64 t.d,.int .i64 t.f,.int .i64 t.p,.int .u32 t.l,.int .i64 t.i,.slice t.ka t.kl t.kc,.slice t.sa t.sl t.sc,.slice t.pa t.pl t.pc] 26 (0,0)):=(bi.block b0 (by omega)).trans bW;have ae:Below wr.heap.size wr V:=bX.out.trans (bi.mono (by omega));have aH:=hid ae;have cq:=hid (bI.out.trans (ae.mono (show w0.heap.size≤wr.heap.size by omega)));have bu:bs<V.heap.size:=(Ai aB).1;have cD:wr.heap.size≤V.heap.size:=ae.size;have c5:=hid aB;have dq:=hid br;obtain⟨bV,bb⟩:=Ex V.heap.size;have d2:V.cell? ⟨bs,2,none⟩=some (.int .u64 (a:Nat)):=qa aB 2;have aa:=hid bb;have b8:=hid ((cz.out.below (aW▸bC.out)).below ae);clear ae bi hV bX bW aI cL aE aB br bb;go_wp2_with fail
     go_loopw [18,19] (fun d k wr=> ∃m:Nat,k= .int .u64 (m:Nat)∧a≤m∧m≤b∧wr.ownsRow bV 5 1 d (ZO Lb a m).length ((ZO Lb a m).map qp)∧Below bV V wr) (fun _ k _=>b - (intOf k).toNat)
     case atStart=>exact⟨a,rfl,Nat.le_refl _,dr,by rw[qeZ];exact Wo _ _ _ _,Below.refl _ _⟩
     case round=>
      obtain⟨m,rfl,cb,dS,ar,G⟩:=hrel;have e3:wr.cell? ⟨bs,3,none⟩=some (.int .u64 (b:Nat)):=(G.cell (p:=⟨bs,3,none⟩) (show bs<bV by rw[←aa.out];exact bu)).trans (qa c5.out 3);have dF:bV≤wr.heap.size:=by have:=G.size;rw[aa.out]at this;exact this
      have dx:bs<wr.heap.size:=by rw[aa.out]at bu;omega
      by_cases dM:m<b
      case pos=>
       have dw:(m:Int)<b:=by omega
       obtain⟨d4,d3,e, -, -,h3⟩:=b8.out;obtain⟨g,off,rfl,h4,h5⟩:=h3.resolve_left (fun e=>by rw[e]at bx;simp at bx;omega);simp only[Value.slice.injEq]at e;obtain⟨rfl, -,rfl⟩:=e;obtain⟨xx,bP,bd⟩:=h5 m (by omega);obtain⟨xb,xd,rfl, -, -⟩:=bd.slice;have c0:wr.cell? ⟨g,off+m,none⟩=some (.slice xb (Qi Lb m).length xd):=(G.cell (p:=⟨g,off+m,none⟩) (show g<bV by rw[←aa.out];exact h4)).trans bP;have dV:g<wr.heap.size:=by rw[aa.out]at h4;omega
       have HX:=hid (bd.below (aa.out.symm▸G)).src;have cC:=hid ar;have cI:=hid G;have an:=bL.out a (m+1);rw[qa7 cb (by omega),List.length_append]at an;have bU:=hid an;have ea:(m:Int)<Lb.length:=by omega
       have dT:IntKind.u64.wrap ((m:Int)+1)=((m+1:Nat):Int):=u64_wrap_id _ (by omega) (by omega);clear bP bd h5 h4 h3 ar G an;go_wp2_with (at_builtin;refine Qh rfl _ _ _ rfl V bV aa.out.symm cI.out 5 i8 (.int .u8 0) 1 Tryz.underlying24 c9 cj cn cm rfl _ _ _ rfl cC.out _ _ _ rfl HX.out (by have:=bU.out;unfold maxLen;omega) (by have:=bU.out;omega) ?_;intro v' w' J cU)
       refine⟨⟨m+1,rfl,by omega,by omega,?_,cU⟩,by simp[intOf];omega⟩;rw[qa7 cb (by omega),List.length_append,List.map_append];exact J
      obtain rfl:m=b:=by omega
      rename World=>wd
      have dl:wr.heap.size≤wd.heap.size:=by have:=G.size;omega
      have cW:wd.heap[b0]? =some (.cells #[.int .i64 t.k,.int .i64 t.d,.int .i64 t.f,.int .i64 t.p,.int .u32 t.l,.int .i64 t.i,.slice t.ka t.kl t.kc,.slice t.sa t.sl t.sc,.slice t.pa t.pl t.pc] 26 (0,0)):=qe dq.out (aa.out.symm▸G);have aK:=hid (aH.out.trans (G.mono (show wr.heap.size≤bV by rw[←aa.out];exact cD)));have ak:Below w0.heap.size w0 wd:=bI.out.trans (aK.out.mono (show w0.heap.size≤wr.heap.size by omega));have aQ:=hid ak;have bt:OwnB bV wd u18 (Qi I j):=by
       rw[bF.out];exact⟨qcS b8.out.bounds,Zb ar⟩
      obtain⟨ad,nd,kd,rfl⟩:=qu ar;have dn:=hid bt;have be:=hid (qaG t total HE.out HT.out.l ht z1 z2 q j (by omega) (by omega) bz.out _ av.out ad nd kd wd (HT.out.s.below ak) (HT.out.p.below ak));unfold TreeV.val at be;have bO:(Qi I j).length≤536870912:=by rw[bF.out];exact bL.out a _
      have ck:=hid bO;clear ar G ak bt bO;go_wp2_with ((with_reducible show wpList _ _ _ (Oper.mk _ (Op.load 26 _) _ _ _ _::_) _ _);refine wpList_load_row rfl 26 _ rfl b0 rfl _ _ _ _ cW Tryz.underlying26 rfl (by kernel_rfl) ?_)
      refine be.out.mono ?_;rintro e w5 ⟨bv,rfl,bj,aY⟩;obtain⟨a5,n5,k5,rfl⟩:=qu bj;obtain⟨cx,a6,n6,k6,e6⟩:=keyH HT.out q (aQ.out.trans (aY.mono (show w0.heap.size≤wd.heap.size by omega))) S;rw[e6]at cx⊢;have cf:=hid bj;have b9:=hid aY;clear bj aY be;go_upto_region 19 with(first|((with_reducible show wpList _ _ _ (Oper.mk none (Op.store 73 _ _) _ _ _ _::_) _ _);refine wpList_store_row rfl 73 _ _ rfl w5.heap.size (ZQ t.k (.slice a5 n5 k5) (.slice a6 n6 k6) ql (t.outN U) (.slice ad nd kd)) rfl rfl 73 _ (Wn _ _) (by kernel_rfl) rfl (by simp[Value.oneCell',ZQ]) ?_))
      refine qj ?_;intro X hX;obtain⟨p,hp⟩:=Ex w5.heap.size;have aV:X.heap[p]? =some (.cells (ZQ t.k (.slice a5 n5 k5) (.slice a6 n6 k6) ql (t.outN U) (.slice ad nd kd)) 73 (0,0)):=by rw[hX,←hp];exact setRow_heap _ _ _ _ _ _ (Wn _ _)
      have a3:Below p w5 X:=by rw[hX,←hp];exact below_setRow (Br.alloc Nl _) Nl _
      rw[hp];have dP:=b9.out.size;have aP:=hid (show Below wd.heap.size wd X from b9.out.trans (a3.mono (by omega)));have aM:=hid (qi cf.out (fun g _ g2=>a3.block g (by omega)));have bK:KeepH w0 S X (.slice a6 n6 k6) (Jb q kz):=by rw[←e6];exact(keyH HT.out q (aQ.out.trans (aP.out.mono (by omega))) S).1
      have aL:=hid bK;have aR:=hid (show KeepH w0 S X (.slice ad nd kd) (Qi I j) from .inl ((dn.out.le (show S≤bV by rw[←aa.out];omega)).kb (KB.of_below aP.out (Nat.zero_le _))));have al:=hid (aK.out.trans (aP.out.mono dl));unfold ZQ at aV;clear hX hp a3 bK;go_wp2_with ((with_reducible show wpList _ _ _ (Oper.mk _ (Op.load 73 _) _ _ _ _::_) _ _);refine wpList_load_row rfl 73 _ rfl p rfl _ _ _ _ aV Tryz.underlying73 rfl (by kernel_rfl) ?_)
      refine(qey HT.out (row:=q) (at_:=j) (by omega) (by omega) ql U (Qi I j) (.slice ad nd kd) (.slice a5 n5 k5) (.slice a6 n6 k6) X _ aM.out aL.out.hold aR.out.hold (by have:=ck.out;omega)).mono ?_;rintro e w6 ⟨u,rfl,hO,ap⟩;obtain⟨a7,k7,rfl, -, -⟩:=hO.hold.slice;have d5:=ap.size;have aS:S≤X.heap.size:=by have:=al.out.size;omega
      have aN:=hid (KB.of_below ap aS);have bM:=qe aV ap;have ct:=hid (hO.le aS);have am:=hid (al.out.trans (ap.mono (show wr.heap.size≤X.heap.size from al.out.size)));have df:=hid (show CallAt w0 S w6 (t.callS kz z1 z2 q j ql U (Qi I j)) [.int .i64 t.k,.slice a5 n5 k5,.slice a6 n6 k6,.bool ql,.int .i64 (t.outN U),.slice ad nd kd] from
       ⟨_,_,_,_,_,_,_,_,_,rfl,⟨(HT.out.okD (row:=q) (at_:=j) (by omega) (by omega)).2.2.1,(Zb (ownsRow_le aM.out (show S≤wd.heap.size by omega))).kb aN.out⟩,aL.out.kb (by omega) aN.out,aR.out.kb (by omega) aN.out⟩)
      obtain⟨cs,bD,ac,aX⟩:=aC.out;obtain⟨vs,O,ai⟩:=HO.out;rw[yy]at bD ac aX;rw[Qo]at O ai;have cZ:vs.length=j:=by have:=O.1;omega
      have bm:=hid (KB.of_below am.out aw);have cY:=hid (fun i hi=>(aX i hi).kb (show w0.heap.size≤S by omega) bm.out);have cy:=hid (fun i hi=>(ai i hi).kb bm.out);have bg:=hid (qi ac (fun g _ g2=>am.out.block g g2));have bk:=hid (qi O (fun g _ g2=>am.out.block g g2));obtain⟨a8,n8,k8,rfl⟩:=jH ac;obtain⟨a9,n9,k9,rfl⟩:=qu O;have bQ:t.node kz z1 z2 q j ql U (Qi I j)=t.node kz z1 z2 q j (decide (j+1=I.length)) U (Qi I j):=by rw[bH.out]
      have bG:t.callS kz z1 z2 q j ql U (Qi I j)=t.callS kz z1 z2 q j (decide (j+1=I.length)) U (Qi I j):=by rw[bH.out]
      have c4:=hid bQ;have cO:=hid bG;generalize t.node kz z1 z2 q j ql U (Qi I j)=N at*;generalize t.callS kz z1 z2 q j ql U (Qi I j)=C at*;have dG:=am.out.size;have dU:p<w6.heap.size:=(Ai bM).1;clear ap hO bQ bG ac aX O ai aL aR aM aC HO al aH cq av bz ah;go_upto_region 21 with(first|((with_reducible show wpList _ _ _ (Oper.mk _ (Op.load 73 _) _ _ _ _::_) _ _);refine wpList_load_row rfl 73 _ rfl p rfl _ _ _ _ bM Tryz.underlying73 rfl (by kernel_rfl) ?_)|((with_reducible show wpList _ _ _ (Oper.mk _ (Op.buildSlice _ _ _) _ _ _ _::_) _ _);refine qbo rfl _ rfl _ _ _ _ _ _ rfl ?_)|(at_builtin;refine za rfl _ _ _ rfl S 73 (by decide) ic _ 6 96 Tryz.underlying111 da cw cA cB rfl (by decide) (.slice a8 n8 k8) j cs.flatten [.int .i64 t.k,.slice a5 n5 k5,.slice a6 n6 k6,.bool ql,.int .i64 (t.outN U),.slice ad nd kd] _ rfl bg.out rfl rfl (by simp[Value.oneCell']) (by unfold maxLen;omega) (by omega) (by omega) ?_;intro v' w' J ab ag))
      have bl:=hid (yC bk.out (Z5 bg.out bk.out (by decide) ag));have cM:=hid (show CallsO w0 S w' v' (t.rowC kz z1 z2 q U I (j+1)) from by
       rw[qap,←cO.out];refine CallsO.snoc (w:=w6) (cs:=cs) (fun i hi=>?_) (by rw[yy];exact bD) df.out (by rw[yy];exact J) (by omega) ab;rw[yy]at hi;exact cY.out i hi)
      have af:=hid ab;have dE:=ab.size;obtain⟨dW,dY,d6,rfl⟩:=jH J;have cp:=hid J;clear J ab ag;go_wp2_with (first|((with_reducible show wpList _ _ _ (Oper.mk _ (Op.buildSlice _ _ _) _ _ _ _::_) _ _);refine qbp rfl _ rfl _ _ _ rfl ?_)|(at_builtin;refine za rfl _ _ _ rfl S 24 (by decide) ib (.slice none 0 0) 1 24 Tryz.underlying67 cG db dp c6 rfl (by decide) (.slice a9 n9 k9) j vs [.slice a7 N.length k7] _ rfl bl.out rfl rfl (by simp[Value.oneCell']) (by unfold maxLen;omega) (by omega) (by omega) ?_;intro v7 w7 bp au ci))
      refine⟨⟨j+1,rfl,by omega,?_,?_,(bC.out.trans (am.out.mono aw)).trans ((af.out.trans au).below)⟩,by simp[intOf];omega⟩
      ·exact cM.out.kb (by omega) au (Z5 bl.out cp.out (by decide) ci)
      ·rw[qan,←c4.out];refine ListO.snoc (w:=w') (vs:=vs) (x:= .slice a7 N.length k7) (fun i hi=>?_) (by rw[Qo];exact cZ) (ct.out.kb af.out) (by rw[Qo];exact bp) au;rw[Qo]at hi;exact(cy.out i hi).kb af.out
    obtain rfl:j=I.length:=by omega
    have cd:wr.cell? ⟨Z,q,none⟩=some (.int .u64 (I.length:Nat)):=(G.cell (p:=⟨Z,q,none⟩) (show Z<S by omega)).trans aO;have aw:S≤wr.heap.size:=by have:=G.size;omega
    have cc:Z<wr.heap.size:=by omega
    obtain⟨vs,O,ai⟩:=aU.out.below (show w0.heap.size≤wq.heap.size by omega) (aW▸G);have dt:=hid ai;rw[yZ]at O;have a4:=hid O;have aC:=hid (ac.le ax);have HO:=hid (ho.le ax);have c3:=hid (HB.out.trans (G.mono ax));obtain⟨cs, -,bY, -⟩:=ac;obtain⟨d8,aJ, -⟩:=ho;have cl:=hid aJ;obtain⟨a7,n7,k7,rfl⟩:=qu O;obtain⟨a8,n8,k8,rfl⟩:=jH bY;obtain⟨a9,n9,k9,rfl⟩:=qu aJ;have dN:r+1≤256:=by have:=HQ.out;omega
    clear O ai G bY aJ;go_upto_region 23 with(first|((with_reducible show wpList _ _ _ (Oper.mk _ (Op.buildSlice _ _ _) _ _ _ _::_) _ _);refine qbn rfl _ rfl _ _ _ rfl ?_)|(at_builtin;refine za rfl _ _ _ rfl bR 111 (by decide) il (.slice none 0 0) 1 24 Tryz.underlying114 cN dk cV cF rfl (by decide) (.slice a7 n7 k7) r vs [.slice a8 n8 k8] _ rfl a4.out rfl rfl (by simp[Value.oneCell']) (by unfold maxLen;omega) (by omega) (by omega) ?_;intro v' w' J ab ag))
    have af:=hid ab;have bA:=hid ag;have cH:=hid J;have dQ:IntKind.i64.wrap ((q:Int)+1)=((q+1:Nat):Int):=by rw[IntKind.wrap_i64]<;>omega
    clear J ab ag;go_wp2_with fail
    have bw:ListO bR w' (.slice a9 n9 k9) (t.lvlZ kz z1 z2 L0 q):=by
     rw[di.out];exact HO.out.kb af.out (Z5 a4.out cl.out (by decide) bA.out)
    refine⟨⟨q,q+1,rfl,rfl,by omega,?_,bw.hold,fun _=>bw,c3.out.trans af.out.below⟩,by simp[intOf];omega⟩;have e:=JP t kz z1 z2 L0 r;rw[←HQ.out,cX.out]at e;rw[e];exact LevO.snoc (v:= .slice a7 n7 k7) (vs:=vs) (x:= .slice a8 n8 k8) (by rw[yZ];exact a4.out) dt.out aC.out (by rw[yZ];exact cH.out) (by omega) af.out bA.out
  obtain rfl:q=RS.length:=by omega
  have bE:r=RS.length - 1:=by omega
  have aq:ListO bR wr u11 (t.lvlZ kz z1 z2 L0 r):=aq (by omega);obtain⟨f1, -, -⟩:=HF.out r;have b7:=hid bE;obtain⟨g,cg,y,rfl,hg,hy,aZ⟩:=aq.get (i:=0) (List.length_pos_iff.2 f1);obtain⟨xb,xd,rfl, -, -⟩:=aZ.hold.slice;have cJ:=hid (aZ.le (show b0≤bR by omega));have aU:=hid (aF.le (show b0≤bR by omega));have HB:=hid (bf.out.trans (G.mono (show b0≤bR by omega)));have dy:bR≤wr.heap.size:=by have:=G.size;omega
  obtain⟨vs,O, -⟩:=aF;obtain⟨a7,n7,k7,rfl⟩:=qu O;have d7:0<(t.lvlZ kz z1 z2 L0 r).length:=List.length_pos_iff.2 f1;generalize (t.lvlZ kz z1 z2 L0 r).length=M at*;clear O aq aZ G hx bE f1;generalize hY:Qi (t.lvlZ kz z1 z2 L0 r) 0=Y at*;have HY:=hid hY;clear hY;go_wp2_with fail
  refine qA (n:=6) (w0:=wr) (B:=wr.heap.size) [.v 90 (.slice a7 n7 k7),.v 91 (.slice (some ⟨g,0,none⟩) M cg),.v 92 (.pointer (some ⟨g,0,none⟩)),.v 93 (.slice xb Y.length xd),.v 6 (.slice a7 n7 k7),.v 7 (.slice xb Y.length xd)] trivial Br.drew Nl ?_ ?_
  ·repeat' (with_reducible first|exact qx|refine qt ?_ ?_)
   all_goals
    intro AA x W hA hW cQ ce D K hK;have c7:=hA.2 10 (by decide);conv at c7=>rhs;whnf
    have dd:=hA.2 11 (by decide);conv at dd=>rhs;whnf
    simp only[QJ,QS]at D;clear ce hA;first
    | go_simp
      exact hK _ _ BR rfl
    | have y0:=(hW.cell (p:=⟨g,0,none⟩) hg).trans hy
      have y1:g<W.heap.size:=by omega
      go_simp
      exact hK _ _ BR rfl
  intro x W hW cQ _;refine qs ?_;simp only[Qx,Act.put,Ls];have dL:wr.heap.size=wr.heap.size:=rfl;go_wp2
  go_ret2
  exact⟨_,_,rfl,by(try rw[aj]);(try rw[←b7.out]);exact aU.out.below (by omega) hW,by(try rw[aj]);(try rw[←b7.out]);rw[HY.out];exact cJ.out.kb (KB.of_below hW (Nat.zero_le _)),by(try rw[aj]);exact HB.out.trans (hW.mono (by omega))⟩
theorem qc4 (t:TreeV)(w:World):Calls Tryz.prog 11 #[t.val] w fun e w'=>e= .returned (.int .i64 t.validE)∧Below w.heap.size w w':=by
 obtain⟨O,q⟩:=Ex w.heap.size;have J:=hid (fun W:World=>yl t W);have D:Below O w (w.alloc (.cells #[.int .i64 t.k,.int .i64 t.d,.int .i64 t.f,.int .i64 t.p,.int .u32 t.l,.int .i64 t.i,.slice t.ka t.kl t.kc,.slice t.sa t.sl t.sc,.slice t.pa t.pl t.pc] 26)):=by rw[←q];exact Br.alloc Nl _
 have o:=Wn w (.cells #[.int .i64 t.k,.int .i64 t.d,.int .i64 t.f,.int .i64 t.p,.int .u32 t.l,.int .i64 t.i,.slice t.ka t.kl t.kc,.slice t.sa t.sl t.sc,.slice t.pa t.pl t.pc] 26);rw[q]at o;generalize t.validE=U at*;unfold TreeV.val at*;go_enter Tryz.func11,Tryz.ntmps11
 go_upto_region 1 with(fail)
 generalize w.alloc (.cells #[.int .i64 t.k,.int .i64 t.d,.int .i64 t.f,.int .i64 t.p,.int .u32 t.l,.int .i64 t.i,.slice t.ka t.kl t.kc,.slice t.sa t.sl t.sc,.slice t.pa t.pl t.pc] 26)=S at*;go_wp2_with ((with_reducible show wpList _ _ _ (Oper.mk _ (Op.load 26 _) _ _ _ _::_) _ _);refine wpList_load_row rfl 26 _ rfl O rfl _ _ _ _ o Tryz.underlying26 rfl (by kernel_rfl) ?_)
 refine(J.out S).mono ?_;rintro e V ⟨rfl,G⟩;have I:=hid (D.trans (G.mono (by have:=(Ai o).1;omega)));clear o D G;go_wp2
 go_ret
 exact⟨rfl,by rw[q];exact I.out⟩
theorem qen {W:World}{B T s n:Nat}{v:Value}{G:List Value}(h:W.ownsRow B T s v n G)(S:0<n): ∃g o,v= .slice (some ⟨g,0,none⟩) n o∧B≤g∧g<W.heap.size∧ ∀j u,G[j]? =some u→W.cell? ⟨g,j,none⟩=some u:=by
 rcases h.2 with⟨-,rfl⟩|⟨g,o,O,rfl,I,D,U,X,V,J⟩
 ·omega
 ·refine⟨g,o,rfl,I,(Ai D).1,fun j u q=>(qa D j).trans ?_⟩;rw[←J,List.getElem?_take]at q;split at q
  ·rw[←Array.getElem?_toList];exact q
  ·cases q
theorem qcB {w:World}{B T n s:Nat}{v:Value}{q:List Value}(D:w.ownsRow B T s v n q): ∀g,v.ownBlock=some g→B≤g:=by
 intro g o;rcases D.2 with⟨rfl, -⟩|⟨J,G,I,rfl,O, -, -⟩
 ·cases o
 ·simp only[Value.ownBlock,Option.some.injEq]at o;omega
theorem z6 {w:World}{B T n s:Nat}{v:Value}{D:List Value}(G:w.ownsRow B T s v n D): ∀g,v.ownBlock=some g→ ∃c,w.heap[g]? =some (.cells c T (0,0)):=by
 intro g o;rcases G.2 with⟨rfl, -⟩|⟨O,I,J,rfl, -,q, -⟩
 ·cases o
 ·simp only[Value.ownBlock,Option.some.injEq]at o;subst o;exact⟨_,q⟩
theorem qg9 {α:Type}(L:List α)(k i:Nat)(x d:α)(o:k<L.length):(L.set k x).getD i d=if k=i then x else L.getD i d:=by
 simp only[Lg,List.getElem?_set];by_cases h:k=i
 ·subst h;simp[o]
 ·simp[h]
theorem qgU {w:World}{g:Nat}{c c2:Array Value}{T q:TypeId}{fr D:Nat×Nat}(h:w.heap[g]? =some (.cells c T fr))(G:T≠q): ∀k,w.heap[k]? =some (.cells c2 q D)→k≠g:=by
 rintro k o rfl
 rw[h]at o;simp only[Option.some.injEq,Obj.cells.injEq]at o;exact G o.2.1
theorem zZ {w:World}{B T n s g:Nat}{v:Value}{D:List Value}{c:Array Value}{o:TypeId}{fr:Nat×Nat}(J:w.ownsRow B T s v n D)(h:w.heap[g]? =some (.cells c o fr))(G:o≠T): ∀k,v.ownBlock=some k→k≠g:=fun k I=>by
 obtain⟨c2,q⟩:=z6 J k I;exact qgU h G k q
end Go.Proofs.YthjoojnlnlmljaaGreat
