/- The rows above the leaves, by the reference. No condition. -/
import Derived.Test.YthjoojnlnlmljaaGreatP31
import Derived.Test.YthjoojnlnlmljaaGreatP32
import Derived.Test.YthjoojnlnlmljaaGreatP05
import Derived.Test.YthjoojnlnlmljaaGreatP25
import Derived.Maps.AppendAt
import Derived.Test.YthjoojnlnlmljaaGreatP24
import Derived.Test.YthjoojnlnlmljaaGreatP30
import Derived.ArgAppend
set_option linter.all false
set_option maxRecDepth 100000
set_option maxHeartbeats 8000000
namespace Go.Proofs.YthjoojnlnlmljaaGreat
open Go.ChangeShapes Go.WideShapes Go.ChangeAt Go.RowKit Go.Joins Go.Shelf Go.Maps
open Go.Lib (hid)
attribute [local go_sem] Oper.semAt_some
def TreeV.lvlC (t:TreeV)(kz z1 z2:List Int)(L0:List (List Int))(r:Nat):List CallS:=t.rowC kz z1 z2 (r+1) (t.rootZ (r+1) (t.lvlZ kz z1 z2 L0 r).length) (t.upZ (r+1) (t.lvlZ kz z1 z2 L0 r)) (t.upZ (r+1) (t.lvlZ kz z1 z2 L0 r)).length
def TreeV.lvlsC (t:TreeV)(kz z1 z2:List Int)(L0:List (List Int))(m:Nat):List (List CallS):=(List.range m).map (t.lvlC kz z1 z2 L0)
theorem Zk (t:TreeV)(o z1 z2:List Int)(q:List (List Int))(m:Nat):t.lvlsC o z1 z2 q (m+1)=t.lvlsC o z1 z2 q m++[t.lvlC o z1 z2 q m]:=by simp[TreeV.lvlsC,List.range_succ]
theorem TreeV.lvlsC_length (t:TreeV)(o z1 z2:List Int)(q:List (List Int))(m:Nat):(t.lvlsC o z1 z2 q m).length=m:=by simp[TreeV.lvlsC]
def ji (L:List (List Int))(a m:Nat):List Int:=((L.drop a).take (m - a)).flatten
theorem qbM {L:List (List Int)}{a m:Nat}(q:a≤m)(o:m<L.length):ji L a (m+1)=ji L a m++qK L m:=by
 unfold ji;rw[show m+1 - a=(m - a)+1 by omega,J0 (by simp;omega),J8,show a+(m - a)=m by omega]
theorem qfv (L:List (List Int))(a:Nat):ji L a a=[]:=by simp[ji]
theorem qgI (L:List (List Int))(a m:Nat):(ji L a m).length≤L.flatten.length:=YE ((List.take_sublist _ _).trans (List.drop_sublist _ _))
theorem ListH.bounds {w:World}{v:Value}{L:List (List Int)}(h:ListH w v L): ∀l∈L,∀z∈l,0≤z∧z≤255:=by
 obtain⟨a,J,rfl, -, -,G⟩:=h;intro l r z D;rcases G with rfl|⟨g,off, -, -,I⟩
 ·cases r
 ·obtain⟨i,o,rfl⟩:=List.mem_iff_getElem.1 r;obtain⟨x, -,q⟩:=I i o;have e:qK L i=L[i]:=by unfold qK;simp[Lg,o]
  rw[e]at q;exact q.1 z D
theorem qdq {L:List (List Int)}{a m:Nat}(h: ∀l∈L,∀z∈l,0≤z∧z≤255): ∀z∈ji L a m,0≤z∧z≤255:=by
 intro z r;obtain⟨l,q,o⟩:=List.mem_flatten.1 r;exact h l (List.mem_of_mem_drop (List.mem_of_mem_take q)) z o
theorem qfH (t:TreeV)(G z1 z2:List Int)(total:Nat)(I:List (List Int))(v:Value)(w0 w:World)(h:TreeOk t G z1 z2 w0)(he:t.err total=0)(hv:ListH w v I)(hw:Below w0.heap.size w0 w)(h0:I.length=lvs total t.ln)(h1: ∀z∈I,z.length≤64)(hn:I.length≤8388608)(ht:(total:Int)≤18446744073709551615):
  Calls Tryz.prog 65 #[t.val,.int .u64 total,v] w fun e w'=> ∃cv u,e= .returned (.tuple #[cv,u])∧LevO w0 w.heap.size w' cv (t.lvlsC G z1 z2 I ((t.rowsOf total).length - 1))∧OwnB w.heap.size w' u (qK (t.lvlZ G z1 z2 I ((t.rowsOf total).length - 1)) 0)∧Below w.heap.size w w':=by
 obtain⟨b0,ak⟩:=Ex w.heap.size;have dr:w0.heap.size≤b0:=by have:=hw.size;omega
 have HW:=hid hw;have HT:=hid h;have HV:=hid hv;have HE:=hid he;obtain⟨ib,c7,cw,cH,dj⟩:=info_parts yH;obtain⟨ic,cX,cZ,cE,cG⟩:=info_parts qae;obtain⟨il,du,cI,dh,cx⟩:=info_parts Jn;obtain⟨i8,cW,cm,cr,cj⟩:=info_parts Qr;have b4:I≠[]:=List.length_pos_iff.1 (by rw[h0];unfold lvs;omega);have HF:=hid (Qk h.v G z1 z2 b4 h1);have aF:=hid (fun W:World=>Jl t h.l total ht he W);have hR:=qM he;have dt:t.pn≤255:=by have:=(qo h.v).2.2.2.2.2.2.2.1;unfold TreeV.pn;omega
 have ce:=hR.len;have bp:=hR.most;have cb:=hid (yc he G z1 z2 h0 h1);have bM:=hid (fun(r:Nat) (hr:r+1<(t.rowsOf total).length) (i:Nat) (hi:i<(t.upZ (r+1) (t.lvlZ G z1 z2 I r)).length)=>qgv he G z1 z2 h0 h1 hr rfl rfl hi);have c4:=hid (fun(W:World) (row:Nat) (i:Nat)=>yC t h.l total ht (row:Int) i W);rw[show QP t.fn t.pn (lvs total t.ln)=t.rowsOf total from rfl]at aF;have df:(t.rowsOf total).length≤255:=by omega
 obtain⟨va,vc,rfl,dD,dy, -⟩:=id hv;have bI:Below b0 w (w.alloc (.cells #[.int .i64 t.k,.int .i64 t.d,.int .i64 t.f,.int .i64 t.p,.int .u32 t.l,.int .i64 t.i,.slice t.ka t.kl t.kc,.slice t.sa t.sl t.sc,.slice t.pa t.pl t.pc] 26)):=by rw[←ak];exact Br.alloc Nl _
 have ar:=Wn w (.cells #[.int .i64 t.k,.int .i64 t.d,.int .i64 t.f,.int .i64 t.p,.int .u32 t.l,.int .i64 t.i,.slice t.ka t.kl t.kc,.slice t.sa t.sl t.sc,.slice t.pa t.pl t.pc] 26);rw[ak]at ar;obtain⟨RS,ca⟩:=Ex (t.rowsOf total);rw[ca]at aF ce df cb bM⊢;clear h hv hw he b4 h0 h1 hR bp dt ca;unfold TreeV.val at*;go_enter Tryz.func65,Tryz.ntmps65
 go_upto_region 1 with(fail)
 generalize w.alloc (.cells #[.int .i64 t.k,.int .i64 t.d,.int .i64 t.f,.int .i64 t.p,.int .u32 t.l,.int .i64 t.i,.slice t.ka t.kl t.kc,.slice t.sa t.sl t.sc,.slice t.pa t.pl t.pc] 26)=wA at*;go_wp2_with ((with_reducible show wpList _ _ _ (Oper.mk _ (Op.load 26 _) _ _ _ _::_) _ _);refine wpList_load_row rfl 26 _ rfl b0 rfl _ _ _ _ ar Tryz.underlying26 rfl (by kernel_rfl) ?_)
 refine(aF.out wA).mono ?_;rintro e wR ⟨rv,rfl,aD,aB⟩;have cO:b0<wA.heap.size:=(Ai ar).1;have cM:=hid (qg ar aB);have aU:=hid (bI.trans (aB.mono (show b0≤wA.heap.size by omega)));have dk:=aB.size;obtain⟨bR,cJ⟩:=Ex wR.heap.size;have dG:b0<bR:=by omega
 have de:=hid aD;obtain⟨ra,rn,rc,rfl⟩:=qs aD;have bq: ∃gR,ra=some ⟨gR,0,none⟩∧rn=RS.length∧gR<bR∧ ∀k,k<RS.length→wR.cell? ⟨gR,k,none⟩=some (.int .u64 (nth RS k)):=by
  obtain⟨gR,dP,e, -, -,h2,h3⟩:=Ye aD (by omega);simp only[Value.slice.injEq]at e;obtain⟨rfl,rfl, -⟩:=e;exact⟨gR,rfl,rfl,by omega,h3⟩
 obtain⟨gR,rfl,rfl,cV,bE⟩:=bq;have cU:=hid bE;have cN:=hid (HV.out.below (ak▸aU.out));clear aB ar bI aF dk aD bE de HV cO;go_wp2_with fail
 go_loopw [10,11,12] (fun o x i wr=> ∃r q:Nat,i= .int .i64 (q:Nat)∧q=r+1∧q≤RS.length∧LevO w0 bR wr o (t.lvlsC G z1 z2 I r)∧ListH wr x (t.lvlZ G z1 z2 I r)∧(1≤r→ListO bR wr x (t.lvlZ G z1 z2 I r))∧Below bR wR wr) (fun _ _ i _=>256 - (intOf i).toNat)
 case atStart=>exact⟨0,1,rfl,rfl,by omega,LevO.nil _ _ _,cN.out,fun h=>by omega,Below.refl _ _⟩
 case round=>
  obtain⟨r,q,rfl,hq,dU,aA,hx,ao,J⟩:=hrel;have dv:(RS.length:Int)≤255:=by omega
  by_cases bO:q<RS.length
  case pos=>
   rename World=>wq
   have dI:(q:Int)<RS.length:=by omega
   obtain⟨f1,f2,f3⟩:=HF.out r;have ap:=YX f3;have ba:=Zb HT.out.v q f1;have aX:nth RS q=(t.upZ q (t.lvlZ G z1 z2 I r)).length:=by
    rw[←cb.out q bO,hq];exact TreeV.rowZ_length ..
   have di:=hid (fun(i:Nat) (hi:i<(t.upZ q (t.lvlZ G z1 z2 I r)).length)=>by have:=bM.out r (by omega) i (by rw[←hq];exact hi);rw[←hq]at this;exact this);have d7:=hid (fun i=>jq t q (t.lvlZ G z1 z2 I r) i);have cY:=hid (show t.lvlZ G z1 z2 I q=t.rowZ G z1 z2 q (t.rootZ q (t.lvlZ G z1 z2 I r).length) (t.upZ q (t.lvlZ G z1 z2 I r)) (t.upZ q (t.lvlZ G z1 z2 I r)).length by rw[hq];rfl);have db:=hid (show t.lvlC G z1 z2 I r=t.rowC G z1 z2 q (t.rootZ q (t.lvlZ G z1 z2 I r).length) (t.upZ q (t.lvlZ G z1 z2 I r)) (t.upZ q (t.lvlZ G z1 z2 I r)).length by rw[hq];rfl);have eb:(t.upZ q (t.lvlZ G z1 z2 I r)).length≤I.length:=Nat.le_trans ba.2 f2;have d3:=ba.1;have b8:=hid (show ∀a m,(ji (t.lvlZ G z1 z2 I r) a m).length≤536870912 from fun a m=>by have:=qgI (t.lvlZ G z1 z2 I r) a m;omega);have dE:(t.lvlZ G z1 z2 I r).length≤8388608:=by omega
   generalize t.upZ q (t.lvlZ G z1 z2 I r)=O at*;generalize t.rootZ q (t.lvlZ G z1 z2 I r).length=rt at*;generalize t.lvlZ G z1 z2 I r=Lb at*;obtain⟨xa,xc,rfl,dw,dx, -⟩:=id hx;have ct:=hid hx;have aL:=hid aA;have HB:=hid J;have HQ:=hid hq;have dH:=hid aX;have bb:wq.cell? ⟨gR,q,none⟩=some (.int .u64 (nth RS q)):=(J.cell (p:=⟨gR,q,none⟩) cV).trans (cU.out q bO);rw[aX]at bb;obtain⟨Z,bf⟩:=Ex wq.heap.size;have ax:bR≤Z:=by have:=J.size;omega
   have c3:=hid (qg cM.out (cJ▸J));have ck:=hid (show Below w0.heap.size w0 wq from HW.out.trans ((aU.out.trans (J.mono (by omega))).mono dr));clear aA hx ao J hq aX ba f1 f2 f3 ap;go_wp2_with fail
   go_loopw [13,14,15] (fun s u i wr=> ∃j:Nat,i= .int .u64 (j:Nat)∧j≤O.length∧CallsO w0 Z wr s (t.rowC G z1 z2 q rt O j)∧ListO Z wr u (t.rowZ G z1 z2 q rt O j)∧Below Z wq wr) (fun _ _ i _=>O.length - (intOf i).toNat)
   case atStart=>exact⟨0,rfl,Nat.zero_le _,CallsO.nil _ _ _,ListO.nil _ _,Below.refl _ _⟩
   case round=>
    obtain⟨j,rfl,hj,ae,ho,J⟩:=hrel;by_cases cu:j<O.length
    case pos=>
     have dK:(j:Int)<O.length:=by omega
     have dN:(O.length:Int)≤16777216:=by omega
     have cq:wr.cell? ⟨gR,q,none⟩=some (.int .u64 (O.length:Nat)):=(J.cell (p:=⟨gR,q,none⟩) (show gR<Z by omega)).trans bb;obtain⟨az,a,b,bg,cP,bH,bC⟩:=di.out j cu;have aj:=hid (fun W:World=>c4.out W q j);have bX:t.spotR total (q:Int) j=⟨q,j,a,b,decide (j+1=O.length),rt⟩:=by unfold TreeV.spotR;rw[if_pos ⟨HE.out,az⟩];exact bg
     have bY:t.spotE total (q:Int) j=0:=by unfold TreeV.spotE;rw[if_neg (by simp[HE.out]),if_pos az]
     rw[bX,bY]at aj;unfold SpotV.val at aj;simp only at aj
     have bJ:=hid az;have av:=hid bg;have bU:=hid (show qK O j=ji Lb a b from bC);obtain⟨ql,aM⟩: ∃q:Bool,decide (j+1=O.length)=q:=⟨_,rfl⟩;rw[aM]at aj av;have bW:=hid aM;have a4:wr.heap[b0]? =some (.cells #[.int .i64 t.k,.int .i64 t.d,.int .i64 t.f,.int .i64 t.p,.int .u32 t.l,.int .i64 t.i,.slice t.ka t.kl t.kc,.slice t.sa t.sl t.sc,.slice t.pa t.pl t.pc] 26 (0,0)):=qg c3.out (bf▸J);have bx:=hid (show Below w0.heap.size w0 wr from ck.out.trans (J.mono (by omega)));have ay:Z≤wr.heap.size:=by have:=J.size;omega
     have dF:IntKind.u64.wrap ((j:Int)+1)=((j+1:Nat):Int):=u64_wrap_id _ (by omega) (by omega);have aH:=hid ae;have HO:=hid ho;have bZ:=hid J;have co:gR<wr.heap.size:=by omega
     clear az bg bC aM bX bY ae ho J;go_wp2_with ((with_reducible show wpList _ _ _ (Oper.mk _ (Op.load 26 _) _ _ _ _::_) _ _);refine wpList_load_row rfl 26 _ rfl b0 rfl _ _ _ _ a4 Tryz.underlying26 rfl (by kernel_rfl) ?_)
     refine(aj.out wr).mono ?_;rintro e w4 ⟨rfl,aC⟩;have bK:=hid aC;have dc:=aC.size;have bt:=qg a4 aC;clear aC;go_upto_region 13 with(first|((with_reducible show wpList _ _ _ (Oper.mk none (Op.store 96 _ _) _ _ _ _::_) _ _);refine wpList_store_row rfl 96 _ _ rfl w4.heap.size #[.int .i64 (q:Nat),.int .u64 (j:Nat),.int .u64 (a:Nat),.int .u64 (b:Nat),.bool ql,.bool rt] rfl rfl 96 _ (Wn _ _) (by kernel_rfl) rfl (by simp[Value.oneCell']) ?_))
     refine qn ?_;intro V hV;obtain⟨bs,aE⟩:=Ex w4.heap.size;have aG:V.heap[bs]? =some (.cells #[.int .i64 (q:Nat),.int .u64 (j:Nat),.int .u64 (a:Nat),.int .u64 (b:Nat),.bool ql,.bool rt] 96 (0,0)):=by rw[hV,←aE];exact setRow_heap _ _ _ _ _ _ (Wn _ _)
     have aQ:Below bs w4 V:=by rw[hV,←aE];exact below_setRow (Br.alloc Nl _) Nl _
     rw[aE];have bQ:V.heap[b0]? =some (.cells #[.int .i64 t.k,.int .i64 t.d,.int .i64 t.f,.int .i64 t.p,.int .u32 t.l,.int .i64 t.i,.slice t.ka t.kl t.kc,.slice t.sa t.sl t.sc,.slice t.pa t.pl t.pc] 26 (0,0)):=(aQ.block b0 (by omega)).trans bt;have ag:Below wr.heap.size wr V:=bK.out.trans (aQ.mono (by omega));have aR:=hid ag;have ci:=hid (bx.out.trans (ag.mono (show w0.heap.size≤wr.heap.size by omega)));have b3:bs<V.heap.size:=(Ai aG).1;have cK:wr.heap.size≤V.heap.size:=ag.size;have cT:=hid aG;have cy:=hid bQ;obtain⟨bV,bi⟩:=Ex V.heap.size;have d2:V.cell? ⟨bs,2,none⟩=some (.int .u64 (a:Nat)):=qd aG 2;have ab:=hid bi;have bF:=hid ((ct.out.below (bf▸bZ.out)).below ag);clear ag aQ hV bK bt a4 dc aE aG bQ bi;go_wp2_with fail
     go_loopw [18,19] (fun d k wr=> ∃m:Nat,k= .int .u64 (m:Nat)∧a≤m∧m≤b∧wr.ownsRow bV 5 1 d (ji Lb a m).length ((ji Lb a m).map qt)∧Below bV V wr) (fun _ k _=>b - (intOf k).toNat)
     case atStart=>exact⟨a,rfl,Nat.le_refl _,cP,by rw[qfv];exact Wo _ _ _ _,Below.refl _ _⟩
     case round=>
      obtain⟨m,rfl,bS,d4,au,J⟩:=hrel;have e3:wr.cell? ⟨bs,3,none⟩=some (.int .u64 (b:Nat)):=(J.cell (p:=⟨bs,3,none⟩) (show bs<bV by rw[←ab.out];exact b3)).trans (qd cT.out 3);have dC:bV≤wr.heap.size:=by have:=J.size;rw[ab.out]at this;exact this
      have dB:bs<wr.heap.size:=by rw[ab.out]at b3;omega
      by_cases d5:m<b
      case pos=>
       have dA:(m:Int)<b:=by omega
       obtain⟨dY,ea,e, -, -,h3⟩:=bF.out;obtain⟨g,off,rfl,h4,h5⟩:=h3.resolve_left (fun e=>by rw[e]at bH;simp at bH;omega);simp only[Value.slice.injEq]at e;obtain⟨rfl, -,rfl⟩:=e;obtain⟨xx,cc,bh⟩:=h5 m (by omega);obtain⟨xb,xd,rfl, -, -⟩:=bh.slice;have c0:wr.cell? ⟨g,off+m,none⟩=some (.slice xb (qK Lb m).length xd):=(J.cell (p:=⟨g,off+m,none⟩) (show g<bV by rw[←ab.out];exact h4)).trans cc;have dR:g<wr.heap.size:=by rw[ab.out]at h4;omega
       have HX:=hid (bh.below (ab.out.symm▸J)).src;have dp:=hid au;have cD:=hid J;have ap:=b8.out a (m+1);rw[qbM bS (by omega),List.length_append]at ap;have bA:=hid ap;have d9:(m:Int)<Lb.length:=by omega
       have dV:IntKind.u64.wrap ((m:Int)+1)=((m+1:Nat):Int):=u64_wrap_id _ (by omega) (by omega);clear cc bh h5 h4 h3 au J ap;go_wp2_with (at_builtin;refine qT rfl _ _ _ rfl V bV ab.out.symm cD.out 5 i8 (.int .u8 0) 1 Tryz.underlying24 cW cm cr cj rfl _ _ _ rfl dp.out _ _ _ rfl HX.out (by have:=bA.out;unfold maxLen;omega) (by have:=bA.out;omega) ?_;intro v' w' U dl)
       refine⟨⟨m+1,rfl,by omega,by omega,?_,dl⟩,by simp[intOf];omega⟩;rw[qbM bS (by omega),List.length_append,List.map_append];exact U
      obtain rfl:m=b:=by omega
      rename World=>wd
      have da:wr.heap.size≤wd.heap.size:=by have:=J.size;omega
      have cF:wd.heap[b0]? =some (.cells #[.int .i64 t.k,.int .i64 t.d,.int .i64 t.f,.int .i64 t.p,.int .u32 t.l,.int .i64 t.i,.slice t.ka t.kl t.kc,.slice t.sa t.sl t.sc,.slice t.pa t.pl t.pc] 26 (0,0)):=qg cy.out (ab.out.symm▸J);have aN:=hid (aR.out.trans (J.mono (show wr.heap.size≤bV by rw[←ab.out];exact cK)));have am:Below w0.heap.size w0 wd:=bx.out.trans (aN.out.mono (show w0.heap.size≤wr.heap.size by omega));have aW:=hid am;have b9:OwnB bV wd u18 (qK O j):=by
       rw[bU.out];exact⟨qdq bF.out.bounds,yI au⟩
      obtain⟨ad,nd,kd,rfl⟩:=qs au;have cB:=hid b9;have aP:=hid (Z7 t total HE.out HT.out.l ht z1 z2 q j (by omega) (by omega) bJ.out _ av.out ad nd kd wd (HT.out.s.below am) (HT.out.p.below am));unfold TreeV.val at aP;have bL:(qK O j).length≤536870912:=by rw[bU.out];exact b8.out a _
      have cp:=hid bL;clear au J am b9 bL;go_wp2_with ((with_reducible show wpList _ _ _ (Oper.mk _ (Op.load 26 _) _ _ _ _::_) _ _);refine wpList_load_row rfl 26 _ rfl b0 rfl _ _ _ _ cF Tryz.underlying26 rfl (by kernel_rfl) ?_)
      refine aP.out.mono ?_;rintro e w5 ⟨bv,rfl,aJ,aK⟩;obtain⟨a5,n5,k5,rfl⟩:=qs aJ;obtain⟨c8,a6,n6,k6,e6⟩:=qiB HT.out q (aW.out.trans (aK.mono (show w0.heap.size≤wd.heap.size by omega))) Z;rw[e6]at c8⊢;have cf:=hid aJ;have b7:=hid aK;clear aJ aK aP;go_upto_region 19 with(first|((with_reducible show wpList _ _ _ (Oper.mk none (Op.store 73 _ _) _ _ _ _::_) _ _);refine wpList_store_row rfl 73 _ _ rfl w5.heap.size (yW t.k (.slice a5 n5 k5) (.slice a6 n6 k6) ql (t.outN rt) (.slice ad nd kd)) rfl rfl 73 _ (Wn _ _) (by kernel_rfl) rfl (by simp[Value.oneCell',yW]) ?_))
      refine qn ?_;intro X hX;obtain⟨p,hp⟩:=Ex w5.heap.size;have bc:X.heap[p]? =some (.cells (yW t.k (.slice a5 n5 k5) (.slice a6 n6 k6) ql (t.outN rt) (.slice ad nd kd)) 73 (0,0)):=by rw[hX,←hp];exact setRow_heap _ _ _ _ _ _ (Wn _ _)
      have aO:Below p w5 X:=by rw[hX,←hp];exact below_setRow (Br.alloc Nl _) Nl _
      rw[hp];have d6:=b7.out.size;have aZ:=hid (show Below wd.heap.size wd X from b7.out.trans (aO.mono (by omega)));have aV:=hid (qi cf.out (fun g _ g2=>aO.block g (by omega)));have b5:KeepH w0 Z X (.slice a6 n6 k6) (Za q G):=by rw[←e6];exact(qiB HT.out q (aW.out.trans (aZ.out.mono (by omega))) Z).1
      have aS:=hid b5;have bn:=hid (show KeepH w0 Z X (.slice ad nd kd) (qK O j) from .inl ((cB.out.le (show Z≤bV by rw[←ab.out];omega)).kb (KB.of_below aZ.out (Nat.zero_le _))));have al:=hid (aN.out.trans (aZ.out.mono da));unfold yW at bc;clear hX hp aO b5;go_wp2_with ((with_reducible show wpList _ _ _ (Oper.mk _ (Op.load 73 _) _ _ _ _::_) _ _);refine wpList_load_row rfl 73 _ rfl p rfl _ _ _ _ bc Tryz.underlying73 rfl (by kernel_rfl) ?_)
      refine(qbn HT.out (row:=q) (at_:=j) (by omega) (by omega) ql rt (qK O j) (.slice ad nd kd) (.slice a5 n5 k5) (.slice a6 n6 k6) X _ aV.out aS.out.hold bn.out.hold (by have:=cp.out;omega)).mono ?_;rintro e w6 ⟨u,rfl,hO,aq⟩;obtain⟨a7,k7,rfl, -, -⟩:=hO.hold.slice;have d0:=aq.size;have bl:Z≤X.heap.size:=by have:=al.out.size;omega
      have aI:=hid (KB.of_below aq bl);have bD:=qg bc aq;have cR:=hid (hO.le bl);have an:=hid (al.out.trans (aq.mono (show wr.heap.size≤X.heap.size from al.out.size)));have cz:=hid (show CallAt w0 Z w6 (t.callS G z1 z2 q j ql rt (qK O j)) [.int .i64 t.k,.slice a5 n5 k5,.slice a6 n6 k6,.bool ql,.int .i64 (t.outN rt),.slice ad nd kd] from
       ⟨_,_,_,_,_,_,_,_,_,rfl,⟨(HT.out.okD (row:=q) (at_:=j) (by omega) (by omega)).2.2.1,(yI (ownsRow_le aV.out (show Z≤wd.heap.size by omega))).kb aI.out⟩,aS.out.kb (by omega) aI.out,bn.out.kb (by omega) aI.out⟩)
      obtain⟨cs,bu,ae,bk⟩:=aH.out;obtain⟨vs,aa,ai⟩:=HO.out;rw[qQ]at bu ae bk;rw[TreeV.rowZ_length]at aa ai;have c9:vs.length=j:=by have:=aa.1;omega
      have bd:=hid (KB.of_below an.out ay);have dm:=hid (fun i hi=>(bk i hi).kb (show w0.heap.size≤Z by omega) bd.out);have c5:=hid (fun i hi=>(ai i hi).kb bd.out);have be:=hid (qi ae (fun g _ g2=>an.out.block g g2));have aT:=hid (qi aa (fun g _ g2=>an.out.block g g2));obtain⟨a8,n8,k8,rfl⟩:=Qg ae;obtain⟨a9,n9,k9,rfl⟩:=qs aa;have bT:t.node G z1 z2 q j ql rt (qK O j)=t.node G z1 z2 q j (decide (j+1=O.length)) rt (qK O j):=by rw[bW.out]
      have br:t.callS G z1 z2 q j ql rt (qK O j)=t.callS G z1 z2 q j (decide (j+1=O.length)) rt (qK O j):=by rw[bW.out]
      have dq:=hid bT;have c6:=hid br;generalize t.node G z1 z2 q j ql rt (qK O j)=N at*;generalize t.callS G z1 z2 q j ql rt (qK O j)=C at*;have dz:=an.out.size;have d8:p<w6.heap.size:=(Ai bD).1;clear aq hO bT br ae bk aa ai aS bn aV aH HO al aR ci av bJ aj;go_upto_region 21 with(first|((with_reducible show wpList _ _ _ (Oper.mk _ (Op.load 73 _) _ _ _ _::_) _ _);refine wpList_load_row rfl 73 _ rfl p rfl _ _ _ _ bD Tryz.underlying73 rfl (by kernel_rfl) ?_)|((with_reducible show wpList _ _ _ (Oper.mk _ (Op.buildSlice _ _ _) _ _ _ _::_) _ _);refine jV rfl _ rfl _ _ _ _ _ _ rfl ?_)|(at_builtin;refine QS rfl _ _ _ rfl Z 73 (by decide) ic _ 6 96 Tryz.underlying111 cX cZ cE cG rfl (by decide) (.slice a8 n8 k8) j cs.flatten [.int .i64 t.k,.slice a5 n5 k5,.slice a6 n6 k6,.bool ql,.int .i64 (t.outN rt),.slice ad nd kd] _ rfl be.out rfl rfl (by simp[Value.oneCell']) (by unfold maxLen;omega) (by omega) (by omega) ?_;intro v' w' U ac ah))
      have aY:=hid (qF aT.out (yg be.out aT.out (by decide) ah));have cC:=hid (show CallsO w0 Z w' v' (t.rowC G z1 z2 q rt O (j+1)) from by
       rw[zg,←c6.out];refine CallsO.snoc (w:=w6) (cs:=cs) (fun i hi=>?_) (by rw[qQ];exact bu) cz.out (by rw[qQ];exact U) (by omega) ac;rw[qQ]at hi;exact dm.out i hi)
      have af:=hid ac;have dJ:=ac.size;obtain⟨dS,dQ,dW,rfl⟩:=Qg U;have cl:=hid U;clear U ac ah;go_wp2_with (first|((with_reducible show wpList _ _ _ (Oper.mk _ (Op.buildSlice _ _ _) _ _ _ _::_) _ _);refine QG rfl _ rfl _ _ _ rfl ?_)|(at_builtin;refine QS rfl _ _ _ rfl Z 24 (by decide) ib (.slice none 0 0) 1 24 Tryz.underlying67 c7 cw cH dj rfl (by decide) (.slice a9 n9 k9) j vs [.slice a7 N.length k7] _ rfl aY.out rfl rfl (by simp[Value.oneCell']) (by unfold maxLen;omega) (by omega) (by omega) ?_;intro v7 w7 bo aw cd))
      refine⟨⟨j+1,rfl,by omega,?_,?_,(bZ.out.trans (an.out.mono ay)).trans ((af.out.trans aw).below)⟩,by simp[intOf];omega⟩
      ·exact cC.out.kb (by omega) aw (yg aY.out cl.out (by decide) cd)
      ·rw[zf,←dq.out];refine ListO.snoc (w:=w') (vs:=vs) (x:= .slice a7 N.length k7) (fun i hi=>?_) (by rw[TreeV.rowZ_length];exact c9) (cR.out.kb af.out) (by rw[TreeV.rowZ_length];exact bo) aw;rw[TreeV.rowZ_length]at hi;exact(c5.out i hi).kb af.out
    obtain rfl:j=O.length:=by omega
    have cq:wr.cell? ⟨gR,q,none⟩=some (.int .u64 (O.length:Nat)):=(J.cell (p:=⟨gR,q,none⟩) (show gR<Z by omega)).trans bb;have ay:Z≤wr.heap.size:=by have:=J.size;omega
    have co:gR<wr.heap.size:=by omega
    obtain⟨vs,aa,ai⟩:=aL.out.below (show w0.heap.size≤wq.heap.size by omega) (bf▸J);have cQ:=hid ai;rw[TreeV.lvlsC_length]at aa;have bm:=hid aa;have aH:=hid (ae.le ax);have HO:=hid (ho.le ax);have dn:=hid (HB.out.trans (J.mono ax));obtain⟨cs, -,bG, -⟩:=ae;obtain⟨dT,a3, -⟩:=ho;have cn:=hid a3;obtain⟨a7,n7,k7,rfl⟩:=qs aa;obtain⟨a8,n8,k8,rfl⟩:=Qg bG;obtain⟨a9,n9,k9,rfl⟩:=qs a3;have dM:r+1≤256:=by have:=HQ.out;omega
    clear aa ai J bG a3;go_upto_region 23 with(first|((with_reducible show wpList _ _ _ (Oper.mk _ (Op.buildSlice _ _ _) _ _ _ _::_) _ _);refine jU rfl _ rfl _ _ _ rfl ?_)|(at_builtin;refine QS rfl _ _ _ rfl bR 111 (by decide) il (.slice none 0 0) 1 24 Tryz.underlying114 du cI dh cx rfl (by decide) (.slice a7 n7 k7) r vs [.slice a8 n8 k8] _ rfl bm.out rfl rfl (by simp[Value.oneCell']) (by unfold maxLen;omega) (by omega) (by omega) ?_;intro v' w' U ac ah))
    have af:=hid ac;have bP:=hid ah;have cS:=hid U;have dZ:IntKind.i64.wrap ((q:Int)+1)=((q+1:Nat):Int):=by rw[IntKind.wrap_i64]<;>omega
    clear U ac ah;go_wp2_with fail
    have bz:ListO bR w' (.slice a9 n9 k9) (t.lvlZ G z1 z2 I q):=by
     rw[cY.out];exact HO.out.kb af.out (yg bm.out cn.out (by decide) bP.out)
    refine⟨⟨q,q+1,rfl,rfl,by omega,?_,bz.hold,fun _=>bz,dn.out.trans af.out.below⟩,by simp[intOf];omega⟩;have e:=Zk t G z1 z2 I r;rw[←HQ.out,db.out]at e;rw[e];exact LevO.snoc (v:= .slice a7 n7 k7) (vs:=vs) (x:= .slice a8 n8 k8) (by rw[TreeV.lvlsC_length];exact bm.out) cQ.out aH.out (by rw[TreeV.lvlsC_length];exact cS.out) (by omega) af.out bP.out
  obtain rfl:q=RS.length:=by omega
  have b6:r=RS.length - 1:=by omega
  have ao:ListO bR wr u11 (t.lvlZ G z1 z2 I r):=ao (by omega);obtain⟨f1, -, -⟩:=HF.out r;have bw:=hid b6;obtain⟨g,cg,y,rfl,hg,hy,bj⟩:=ao.get (i:=0) (List.length_pos_iff.2 f1);obtain⟨xb,xd,rfl, -, -⟩:=bj.hold.slice;have cL:=hid (bj.le (show b0≤bR by omega));have aL:=hid (aA.le (show b0≤bR by omega));have HB:=hid (aU.out.trans (J.mono (show b0≤bR by omega)));have dL:bR≤wr.heap.size:=by have:=J.size;omega
  obtain⟨vs,aa, -⟩:=aA;obtain⟨a7,n7,k7,rfl⟩:=qs aa;have dO:0<(t.lvlZ G z1 z2 I r).length:=List.length_pos_iff.2 f1;generalize (t.lvlZ G z1 z2 I r).length=M at*;clear aa ao bj J hx b6 f1;generalize hY:qK (t.lvlZ G z1 z2 I r) 0=Y at*;have HY:=hid hY;clear hY;go_wp2_with fail
  refine qE (n:=6) (w0:=wr) (B:=wr.heap.size) [.v 90 (.slice a7 n7 k7),.v 91 (.slice (some ⟨g,0,none⟩) M cg),.v 92 (.pointer (some ⟨g,0,none⟩)),.v 93 (.slice xb Y.length xd),.v 6 (.slice a7 n7 k7),.v 7 (.slice xb Y.length xd)] trivial Br.drew Nl ?_ ?_
  ·repeat' (with_reducible first|exact qz|refine qx ?_ ?_)
   all_goals
    intro AA x W hA hW dd ch D K hK;have cA:=hA.2 10 (by decide);conv at cA=>rhs;whnf
    have dg:=hA.2 11 (by decide);conv at dg=>rhs;whnf
    simp only[QW,Q8]at D;clear ch hA;first
    | go_simp
      exact hK _ _ BR rfl
    | have y0:=(hW.cell (p:=⟨g,0,none⟩) hg).trans hy
      have y1:g<W.heap.size:=by omega
      go_simp
      exact hK _ _ BR rfl
  intro x W hW dd _;refine qw ?_;simp only[QF,Act.put,Ls];have dX:wr.heap.size=wr.heap.size:=rfl;go_wp2
  go_ret2
  exact⟨_,_,rfl,by(try rw[ak]);(try rw[←bw.out]);exact aL.out.below (by omega) hW,by(try rw[ak]);(try rw[←bw.out]);rw[HY.out];exact cL.out.kb (KB.of_below hW (Nat.zero_le _)),by(try rw[ak]);exact HB.out.trans (hW.mono (by omega))⟩
theorem qet (w:World)(m:Nat):Below w.heap.size w (w.drewN m):=by
 induction m with
 | zero=>exact Below.refl _ _
 | succ m ih=>exact ih.drew
theorem qeg {B:Nat}{w:World}{v:Value}{z:List Int}(h:Fresh B w v z): ∀g,v.ownBlock=some g→B≤g∧g<w.heap.size:=by
 intro g o;rcases h with⟨-,rfl⟩|⟨I,G,D,rfl,r,q, -⟩
 ·cases o
 ·simp only[Value.ownBlock,Option.some.injEq]at o;subst o;exact⟨r,(Ai q).1⟩
theorem YS {t:TreeV}{total:Nat}(h:t.validE=0)(r:total≤4194304):t.err total=0:=by
 unfold TreeV.err;rw[if_neg (by simp[h]),if_neg ?_];rintro⟨-,q⟩
 have o:1≤t.ln∨t.ln=0:=by omega
 rcases o with o|o
 ·have:=Yl (n:=total) o;omega
 ·rw[o]at q;unfold qR at q;split at q<;>simp at q
theorem YP {t:TreeV}(h:t.validE=0)(r:0≤t.l∧t.l≤4294967295)(q z1 z2 zs:List Int):(t.leafZ q z1 z2 zs).length=lvs zs.length t.ln:=by
 have o:1≤t.ln:=by
  have:=(qo h).2.2.2.2.2.2.2.2.1
  unfold TreeV.ln;omega
 rw[←jj zs o];exact TreeV.rowZ_length ..
theorem qas (t:TreeV)(w:World):Calls Tryz.prog 11 #[t.val] w fun e w'=>e= .returned (.int .i64 t.validE)∧Below w.heap.size w w':=by
 obtain⟨G,q⟩:=Ex w.heap.size;have J:=hid (fun W:World=>yF t W);have r:Below G w (w.alloc (.cells #[.int .i64 t.k,.int .i64 t.d,.int .i64 t.f,.int .i64 t.p,.int .u32 t.l,.int .i64 t.i,.slice t.ka t.kl t.kc,.slice t.sa t.sl t.sc,.slice t.pa t.pl t.pc] 26)):=by rw[←q];exact Br.alloc Nl _
 have o:=Wn w (.cells #[.int .i64 t.k,.int .i64 t.d,.int .i64 t.f,.int .i64 t.p,.int .u32 t.l,.int .i64 t.i,.slice t.ka t.kl t.kc,.slice t.sa t.sl t.sc,.slice t.pa t.pl t.pc] 26);rw[q]at o;generalize t.validE=V at*;unfold TreeV.val at*;go_enter Tryz.func11,Tryz.ntmps11
 go_upto_region 1 with(fail)
 generalize w.alloc (.cells #[.int .i64 t.k,.int .i64 t.d,.int .i64 t.f,.int .i64 t.p,.int .u32 t.l,.int .i64 t.i,.slice t.ka t.kl t.kc,.slice t.sa t.sl t.sc,.slice t.pa t.pl t.pc] 26)=O at*;go_wp2_with ((with_reducible show wpList _ _ _ (Oper.mk _ (Op.load 26 _) _ _ _ _::_) _ _);refine wpList_load_row rfl 26 _ rfl G rfl _ _ _ _ o Tryz.underlying26 rfl (by kernel_rfl) ?_)
 refine(J.out O).mono ?_;rintro e U ⟨rfl,D⟩;have I:=hid (r.trans (D.mono (by have:=(Ai o).1;omega)));clear o r D;go_wp2
 go_ret
 exact⟨rfl,by rw[q];exact I.out⟩
theorem z7 {W:World}{B T s n:Nat}{v:Value}{xs:List Value}(h:W.ownsRow B T s v n xs)(O:0<n): ∃g o,v= .slice (some ⟨g,0,none⟩) n o∧B≤g∧g<W.heap.size∧ ∀j u,xs[j]? =some u→W.cell? ⟨g,j,none⟩=some u:=by
 rcases h.2 with⟨-,rfl⟩|⟨g,o,I,rfl,G,r,U,J,V,D⟩
 ·omega
 ·refine⟨g,o,rfl,G,(Ai r).1,fun j u q=>(qd r j).trans ?_⟩;rw[←D,List.getElem?_take]at q;split at q
  ·rw[←Array.getElem?_toList];exact q
  ·cases q
theorem ZQ {P:Program}{ops:Array Oper}{O:List Oper}{o:Oper}{a:Act}{Q:Exit→Act→World→Prop}{W:World}(X:o.guard=none)(s x:Operand)(t:TypeId)
 (ho:o.op= .call { callee:= .builtin .append,args:= #[s,x],argTypes:= #[t,t] }) (B:Nat) (e:TypeId) (he:e≠5) (i:TypeInfo) (z:Value) (size bytes:Nat) (ht:P.underlying t=some (.slice e)) (hi:P.info? e=some i) (hz:i.zero=some z)
 (U:i.size=size) (Y:i.bytes=bytes) (ab:z.cells.size=size) (ac:0<size) (v:Value) (n:Nat) (xs:List Value) (hs:a.eval s=v) (r:W.ownsRow B e size v n xs)
 (B2:Nat) (y:Value) (m:Nat) (ys:List Value) (hx:a.eval x=y) (hy:W.ownsRow B2 e size y m ys) (hm:0<m) (h1: ∀u∈ys,u.oneCell'=true) (aa:n+m≤maxLen) (I:(n+m)*bytes≤140737488355328) (hB:B≤W.heap.size)
 (h: ∀v' w',w'.ownsRow B e size v' (n+m) (xs++ys)→KB B W w'→Spare (fun k=>v.ownBlock≠some k) W w'→(v'.ownBlock=v.ownBlock∨v'.ownBlock=some W.heap.size)→wpList P ops Q O (a.put o.dst v') w'):wpList P ops Q (o::O) a W:=by
 obtain⟨g,J,rfl,af,ae,Z⟩:=z7 hy hm;refine wpList_append_own_at _ X s x t ho B e i z size bytes ht hi hz U Y ab ac v n xs hs r ⟨g,0,none⟩ m J ys hx hy.1 (fun j u hj=>?_) h1 aa I hB fun v' w' h2 h3 _ V=>?_
 ·rw[Go.WideShapes.add_plain,Nat.zero_add];exact Z j u hj
 have q:Spare (fun k=>v.ownBlock≠some k) W w':=Spare.of_grown h3;refine h v' w' h2 ⟨q.os,q.tape,q.output,q.size,fun k hk=>q.block k (by omega) (fun D=>?_),fun k c G=>?_⟩ q V
 ·rcases r.2 with⟨rfl, -⟩|⟨g,J,ad,rfl,h4, -⟩
  ·cases D
  ·simp only[Value.ownBlock,Option.some.injEq]at D;omega
 ·rw[q.block k (Ai G).1 (fun D=>?_)]
  ·exact G
  ·rcases r.2 with⟨rfl, -⟩|⟨g,J,ad,rfl, -,V, -⟩
   ·cases D
   ·simp only[Value.ownBlock,Option.some.injEq]at D;subst D;rw[V]at G;simp only[Option.some.injEq,Obj.cells.injEq]at G;exact he G.2.1
theorem qef {α:Type}(L M:List α)(d:α)(i:Nat):(L++M).getD i d=if i<L.length then L.getD i d else M.getD (i - L.length) d:=by
 simp only[Lg];split
 ·rename_i h;rw[List.getElem?_append_left h]
 ·rename_i h;rw[List.getElem?_append_right (by omega)]
theorem qh8 {w0 w w':World}{B:Nat}{v v':Value}{S Z:List (List CallS)}{vs ys:List Value}(r:w.ownsRow B 111 1 v S.length vs)(X: ∀i,i<S.length→CallsO w0 B w (vs.getD i undef) (S.getD i []))(Y:ys.length=Z.length)(o: ∀i,i<Z.length→CallsO w0 B w (ys.getD i undef) (Z.getD i []))
 (D:w'.ownsRow B 111 1 v' (S.length+Z.length) (vs++ys)) (G:w0.heap.size≤B) (O:KB B w w') (q:Spare (fun k=>v.ownBlock≠some k) w w'):LevO w0 B w' v' (S++Z):=by
 have V:vs.length=S.length:=by have:=r.1;simpa using this
 have one: ∀u S,CallsO w0 B w u S→CallsO w0 B w' u S:=fun u S h=>by
  refine h.kb G O fun g J=>?_
  obtain⟨cs, -,U, -⟩:=h;exact yg r U (by decide) q g J
 refine⟨vs++ys,by simpa using D,fun i I=>?_⟩;simp only[List.length_append]at I;rw[qef,qef,V];split
 ·rename_i h;exact one _ _ (X i h)
 ·rename_i h;exact one _ _ (o (i - S.length) (by omega))
theorem CallsO.one {w0 w:World}{B:Nat}{v:Value}{S:List CallS}(h:CallsO w0 B w v S):v.oneCell'=true:=by
 obtain⟨cs, -,o, -⟩:=h;obtain⟨a,n,c,rfl⟩:=Qg o;rfl
theorem TreeV.lvls_all (t:TreeV)(o z1 z2 zs:List Int)(m:Nat):[t.rowC o z1 z2 0 false (yV t.ln zs) (yV t.ln zs).length]++t.lvlsC o z1 z2 (t.leafZ o z1 z2 zs) m=t.allC o z1 z2 zs (m+1):=by
 induction m with
 | zero=>rfl
 | succ m ih=>rw[Zk,TreeV.allC_succ,←ih,List.append_assoc];rfl
theorem qfk (t:TreeV)(v:Value)(w:World)(h:t.validE≠0):
  Calls Tryz.prog 84 #[t.val,v] w fun e w'=>e= .returned (.tuple #[.slice none 0 0,.int .i64 t.validE])∧Below w.heap.size w w':=by
 obtain⟨I,q⟩:=Ex w.heap.size;have J:=hid (qas t);have r:Below I w (w.alloc (.cells #[.int .i64 t.k,.int .i64 t.d,.int .i64 t.f,.int .i64 t.p,.int .u32 t.l,.int .i64 t.i,.slice t.ka t.kl t.kc,.slice t.sa t.sl t.sc,.slice t.pa t.pl t.pc] 26)):=by rw[←q];exact Br.alloc Nl _
 have o:=Wn w (.cells #[.int .i64 t.k,.int .i64 t.d,.int .i64 t.f,.int .i64 t.p,.int .u32 t.l,.int .i64 t.i,.slice t.ka t.kl t.kc,.slice t.sa t.sl t.sc,.slice t.pa t.pl t.pc] 26);rw[q]at o;generalize t.validE=U at*;have V:(U != 0)=true:=by rw[bne_iff_ne];exact h
 clear h;unfold TreeV.val at*;go_enter Tryz.func84,Tryz.ntmps84
 go_upto_region 1 with(fail)
 generalize w.alloc (.cells #[.int .i64 t.k,.int .i64 t.d,.int .i64 t.f,.int .i64 t.p,.int .u32 t.l,.int .i64 t.i,.slice t.ka t.kl t.kc,.slice t.sa t.sl t.sc,.slice t.pa t.pl t.pc] 26)=O at*;go_wp2_with ((with_reducible show wpList _ _ _ (Oper.mk _ (Op.load 26 _) _ _ _ _::_) _ _);refine wpList_load_row rfl 26 _ rfl I rfl _ _ _ _ o Tryz.underlying26 rfl (by kernel_rfl) ?_)
 refine(J.out O).mono ?_;rintro e X ⟨rfl,D⟩;have G:=hid (r.trans (D.mono (by have:=(Ai o).1;omega)));clear o r D;go_wp2
 go_ret2
 exact⟨rfl,by rw[q];exact G.out⟩
theorem qgy (t:TreeV)(o z1 z2 zs:List Int)(v:Value)(w0 w:World)(h:TreeOk t o z1 z2 w0)(hv:Hold w0 v zs)(hw:Below w0.heap.size w0 w)(hn:zs.length≤4194304):
  Calls Tryz.prog 84 #[t.val,v] w fun e w'=> ∃u,e= .returned (.tuple #[u,.int .i64 0])∧LevO w0 w.heap.size w' u (t.allC o z1 z2 zs ((t.rowsOf zs.length).length - 1+1))∧Below w.heap.size w w':=by
 obtain⟨q,Z⟩:=Ex w.heap.size;have au:w0.heap.size≤q:=by have:=hw.size;omega
 obtain⟨il,aS,aE,aN,aH⟩:=info_parts Jn;have af:=fun W:World=>qas t W
 simp only[h.v]at af;have aT:=hid af;have he:=YS h.v hn;have ai:=Qt h.v h.l o z1 z2 zs;have aw:=YP h.v h.l o z1 z2 zs;have aF:=hid (fun(W:World) (hb:Below q w W)=>qd9 t o z1 z2 zs v w0 W h he hv (hw.trans (hb.mono au)) hn);have aU:=hid (fun(W:World) (x:Value) (hx:ListH W x (t.leafZ o z1 z2 zs)) (hb:Below q w W)=>qfH t o z1 z2 zs.length (t.leafZ o z1 z2 zs) x w0 W h he hx (hw.trans (hb.mono au)) aw ai.2.2 (by have:=ai.2.1;omega) (by omega));have aV:=hid (show t.rowZ o z1 z2 0 false (yV t.ln zs) (yV t.ln zs).length=t.leafZ o z1 z2 zs from rfl);have hR:=qM he;have aR:t.pn≤255:=by have:=(qo h.v).2.2.2.2.2.2.2.1;unfold TreeV.pn;omega
 have aA:=hR.len;have al:=hR.most;have aO:=hid (t.lvls_all o z1 z2 zs ((t.rowsOf zs.length).length - 1));have aG:=t.lvlsC_length o z1 z2 (t.leafZ o z1 z2 zs) ((t.rowsOf zs.length).length - 1);generalize t.allC o z1 z2 zs ((t.rowsOf zs.length).length - 1+1)=AC at*;generalize t.rowZ o z1 z2 0 false (yV t.ln zs) (yV t.ln zs).length=RZ at*;generalize t.rowC o z1 z2 0 false (yV t.ln zs) (yV t.ln zs).length=RC at*;generalize t.lvlsC o z1 z2 (t.leafZ o z1 z2 zs) ((t.rowsOf zs.length).length - 1)=LC at*;generalize qK (t.lvlZ o z1 z2 (t.leafZ o z1 z2 zs) ((t.rowsOf zs.length).length - 1)) 0=Y at*;have aY:1≤LC.length:=by omega
 have aX:LC.length≤256:=by omega
 obtain⟨va,vc,rfl,a3,a4⟩:=hv.slice;have ba:IntKind.u64.wrap (zs.length:Int)=(zs.length:Int):=u64_wrap_id _ (by omega) (by omega);have ax:Below q w (w.alloc (.cells #[.int .i64 t.k,.int .i64 t.d,.int .i64 t.f,.int .i64 t.p,.int .u32 t.l,.int .i64 t.i,.slice t.ka t.kl t.kc,.slice t.sa t.sl t.sc,.slice t.pa t.pl t.pc] 26)):=by rw[←Z];exact Br.alloc Nl _
 have D:=Wn w (.cells #[.int .i64 t.k,.int .i64 t.d,.int .i64 t.f,.int .i64 t.p,.int .u32 t.l,.int .i64 t.i,.slice t.ka t.kl t.kc,.slice t.sa t.sl t.sc,.slice t.pa t.pl t.pc] 26);rw[Z]at D;clear h hv af he ai aw hR aR aA al aG hw;unfold TreeV.val at*;go_enter Tryz.func84,Tryz.ntmps84
 go_upto_region 1 with(fail)
 generalize w.alloc (.cells #[.int .i64 t.k,.int .i64 t.d,.int .i64 t.f,.int .i64 t.p,.int .u32 t.l,.int .i64 t.i,.slice t.ka t.kl t.kc,.slice t.sa t.sl t.sc,.slice t.pa t.pl t.pc] 26)=wA at*;go_wp2_with ((with_reducible show wpList _ _ _ (Oper.mk _ (Op.load 26 _) _ _ _ _::_) _ _);refine wpList_load_row rfl 26 _ rfl q rfl _ _ _ _ D Tryz.underlying26 rfl (by kernel_rfl) ?_)
 refine(aT.out wA).mono ?_;rintro e w2 ⟨rfl,ad⟩;have U:=qg D ad;have an:=ax.trans (ad.mono (by have:=(Ai D).1;omega));have az:=hid an;clear D ax ad an;go_wp2_with ((with_reducible show wpList _ _ _ (Oper.mk _ (Op.load 26 _) _ _ _ _::_) _ _);refine wpList_load_row rfl 26 _ rfl q rfl _ _ _ _ U Tryz.underlying26 rfl (by kernel_rfl) ?_)
 refine(aF.out w2 az.out).mono ?_;rintro e w3 ⟨cv,u,rfl,av,hu,X⟩;have ac:=qg U X;have bd:=(Ai U).1;have ar:=hid (az.out.trans (X.mono (by omega)));have HU:=hid hu.hold;have aJ:=hid (av.le (show q≤w2.heap.size by omega));have bc:=X.size;clear X U hu;go_wp2_with ((with_reducible show wpList _ _ _ (Oper.mk _ (Op.load 26 _) _ _ _ _::_) _ _);refine wpList_load_row rfl 26 _ rfl q rfl _ _ _ _ ac Tryz.underlying26 rfl (by kernel_rfl) ?_)
 refine(aU.out w3 _ (by rw[←aV.out];exact HU.out) ar.out).mono ?_;rintro e r ⟨a6,y,rfl,ap,hy,ab⟩;have a5:=(Ai ac).1;have aW:=hid (ar.out.trans (ab.mono (by omega)));have aQ:=hid (ap.le (show q≤w3.heap.size by omega));have aC:=hid (aJ.out.below (by omega) ab);have a7:=ab.size;obtain⟨cs, -,ao, -⟩:=av;obtain⟨J,G,I,rfl⟩:=Qg ao;clear ab ap hy ac ao;have aa:Below r.heap.size r (r.alloc (.cells #[.slice J G I] 111)):=Br.alloc Nl _;have aq:=Wn r (.cells #[.slice J G I] 111);have O:(r.alloc (.cells #[.slice J G I] 111)).ownsRow q 111 1 (.slice (some ⟨r.heap.size,0,none⟩) 1 1) 1 [.slice J G I]:=⟨rfl,.inr ⟨_,1,_,rfl,by omega,aq,by decide,by decide,rfl,rfl⟩⟩;obtain⟨ws,V,ae⟩:=aQ.out.below (by omega) aa;have aK:ws.length=LC.length:=by have:=V.1;simpa using this
 obtain⟨ak,ag⟩:=Ex r.heap.size;rw[show Value.slice (some ⟨r.heap.size,0,none⟩) 1 1=Value.slice (some ⟨ak,0,none⟩) 1 1 by rw[ag]]at O;have aj:=hid O;have aM:=hid V;have aI:=hid ae;have aD:=hid (aC.out.below (by omega) aa);have aP:=hid (aW.out.trans (aa.mono (by omega)));obtain⟨a9,n9,k9,rfl⟩:=qs V;have ay: ∀u∈ws,u.oneCell'=true:=fun u hu=>by
  obtain⟨i,hi,rfl⟩:=List.mem_iff_getElem.1 hu;have:=ae i (by omega)
  rw[Lg,Lg,List.getElem?_eq_getElem hi]at this;exact CallsO.one this
 have aL:=hid ay;have bb:(r.alloc (.cells #[.slice J G I] 111)).heap.size=ak+1:=by rw[←ag];simp
 clear O V ae ay aa aq;go_upto_region 7 with((with_reducible show wpList _ _ _ (Oper.mk _ (Op.buildSlice _ _ _) _ _ _ _::_) _ _);refine jU rfl _ rfl _ _ _ rfl ?_)
 generalize r.alloc (.cells #[.slice J G I] 111)=w5 at*;go_wp2_with (at_builtin;refine ZQ rfl _ _ _ rfl q 111 (by decide) il (.slice none 0 0) 1 24 Tryz.underlying114 aS aE aN aH rfl (by decide) (.slice (some ⟨ak,0,none⟩) 1 1) 1 [.slice J G I] rfl aj.out q (.slice a9 n9 k9) LC.length ws rfl aM.out (by omega) aL.out (by unfold maxLen;omega) (by omega) (by omega) ?_;intro v' w' am ah aB aZ)
 go_ret2
 refine⟨_,rfl,?_,by rw[Z];exact aP.out.trans ah.below⟩;rw[←aO.out,Z];refine qh8 (S:=[RC]) (vs:=[.slice J G I]) aj.out (fun i hi=>?_) aK aI.out am (by omega) ah aB;obtain rfl:i=0:=by simp at hi;omega
 exact aD.out
def TreeV.outC (t:TreeV)(s:CallS):List Int:=Ja t.big s.bs s.kz s.la s.o s.ds
theorem qaU (t:TreeV)(o z1 z2:List Int)(row i:Nat)(la rt:Bool)(d:List Int):t.outC (t.callS o z1 z2 row i la rt d)=t.node o z1 z2 row i la rt d:=rfl
def RowsV (B:Nat)(w:World)(lv:Value)(vs:List Value)(LL:List (List (List Int))):Prop:=
 w.ownsRow B 67 1 lv LL.length vs∧(∀i,i<LL.length→ListO B w (vs.getD i undef) (LL.getD i []))∧ ∀i j g,i<j→j<LL.length→(vs.getD i undef).ownBlock=some g→(vs.getD j undef).ownBlock≠some g
theorem RowsV.len {B:Nat}{w:World}{o:Value}{vs:List Value}{LL:List (List (List Int))}(h:RowsV B w o vs LL):vs.length=LL.length:=by have:=h.1.1;simpa using this
theorem RowsV.tend {B:Nat}{w w':World}{o:Value}{vs:List Value}{LL:List (List (List Int))}(h:RowsV B w o vs LL)(G: ∀(k:Nat) (c:Array Value),w.heap[k]? =some (.cells c 5 (0,0))→w'.heap[k]? =some (.cells c 5 (0,0)))
  (D: ∀g,o.ownBlock=some g→w'.heap[g]? =w.heap[g]?) (r: ∀i g,i<LL.length→(vs.getD i undef).ownBlock=some g→w'.heap[g]? =w.heap[g]?):RowsV B w' o vs LL:=
 ⟨qF h.1 D,fun i q=>(h.2.1 i q).tend G (fun g I=>r i g q I),h.2.2⟩
theorem Qy {w:World}{B T n s:Nat}{v:Value}{xs:List Value}(q:w.ownsRow B T s v n xs): ∀g,v.ownBlock=some g→B≤g:=by
 intro g o;rcases q.2 with⟨rfl, -⟩|⟨G,D,r,rfl,I, -, -⟩
 ·cases o
 ·simp only[Value.ownBlock,Option.some.injEq]at o;omega
theorem Qh {w:World}{B T n s:Nat}{v:Value}{xs:List Value}(r:w.ownsRow B T s v n xs): ∀g,v.ownBlock=some g→ ∃c,w.heap[g]? =some (.cells c T (0,0)):=by
 intro g o;rcases r.2 with⟨rfl, -⟩|⟨I,G,D,rfl, -,q, -⟩
 ·cases o
 ·simp only[Value.ownBlock,Option.some.injEq]at o;subst o;exact⟨_,q⟩
theorem ListO.row {B:Nat}{w:World}{v:Value}{L:List (List Int)}(h:ListO B w v L): ∃vs,w.ownsRow B 24 1 v L.length vs:=by
 obtain⟨vs,o, -⟩:=h;exact⟨vs,o⟩
theorem QD {α:Type}(L:List α)(k i:Nat)(x d:α)(o:k<L.length):(L.set k x).getD i d=if k=i then x else L.getD i d:=by
 simp only[Lg,List.getElem?_set];by_cases h:k=i
 ·subst h;simp[o]
 ·simp[h]
theorem RowsV.snoc {B:Nat}{w w':World}{D q:Value}{vs:List Value}{LL:List (List (List Int))}(h:RowsV B w D vs LL)(Y:w'.ownsRow B 67 1 q (LL.length+1) (vs++[.slice none 0 0]))(V:KB B w w')(J:Spare (fun k=>D.ownBlock≠some k) w w'):RowsV B w' q (vs++[.slice none 0 0]) (LL++[[]]):=by
 have I:=h.len;refine⟨by simpa using Y,fun i U=>?_,fun i j g O X r=>?_⟩
 ·simp only[List.length_append,List.length_singleton]at U;rw[qI,qI,I];by_cases o:i<LL.length
  ·rw[if_pos o,if_pos o];obtain⟨xs,G⟩:=(h.2.1 i o).row;exact(h.2.1 i o).kb V (yg h.1 G (by decide) J)
  ·rw[if_neg o,if_neg o,if_pos (by omega),if_pos (by omega)];exact ListO.nil _ _
 ·simp only[List.length_append,List.length_singleton]at X;rw[qI,I]at r⊢;by_cases o:j<LL.length
  ·rw[if_pos (by omega)]at r;rw[if_pos o];exact h.2.2 i j g O o r
  ·rw[if_neg o,if_pos (by omega)];intro e;cases e
theorem Tend.of_below (F:Nat→Prop){w w':World}(o:Below w.heap.size w w'):Tend F w w':=⟨Spare.of_below _ o,(KB.of_below o (Nat.zero_le _)).bytes⟩
theorem qbE {W w':World}{B T s n:Nat}{v:Value}{xs:List Value}(r:W.ownsRow B T s v n xs)(G:T≠5)(h:W.grownBy w' v.ownBlock)(O:B≤W.heap.size):KB B W w'∧Spare (fun k=>v.ownBlock≠some k) W w':=by
 have o:Spare (fun k=>v.ownBlock≠some k) W w':=Spare.of_grown h;refine⟨⟨o.os,o.tape,o.output,o.size,fun k J=>o.block k (by omega) (fun D=>by have:=Qy r k D;omega),fun k c q=>?_⟩,o⟩;rw[o.block k (Ai q).1 (fun D=>?_)]
 ·exact q
 ·obtain⟨c2,I⟩:=Qh r k D;rw[I]at q;simp only[Option.some.injEq,Obj.cells.injEq]at q;exact G q.2.1
theorem Y5 {w:World}{g:Nat}{c c2:Array Value}{T r:TypeId}{fr q:Nat×Nat}(h:w.heap[g]? =some (.cells c T fr))(D:T≠r): ∀k,w.heap[k]? =some (.cells c2 r q)→k≠g:=by
 rintro k o rfl
 rw[h]at o;simp only[Option.some.injEq,Obj.cells.injEq]at o;exact D o.2.1
theorem QQ {w:World}{B T n s g:Nat}{v:Value}{xs:List Value}{c:Array Value}{o:TypeId}{fr:Nat×Nat}(D:w.ownsRow B T s v n xs)(h:w.heap[g]? =some (.cells c o fr))(r:o≠T): ∀k,v.ownBlock=some k→k≠g:=fun k G=>by
 obtain⟨c2,q⟩:=Qh D k G;exact Y5 h r k q
theorem ListO.off {B g:Nat}{w X:World}{v:Value}{L:List (List Int)}{c:Array Value}{T:TypeId}{fr:Nat×Nat}(h:ListO B w v L)(q:w.heap[g]? =some (.cells c T fr))(I:T≠24)(D:T≠5)(r: ∀k,k≠g→X.heap[k]? =w.heap[k]?):ListO B X v L:=by
 obtain⟨xs,G⟩:=h.row;exact h.tend (fun k c o=>by rw[r k (Y5 q D k o)];exact o) (fun k o=>r k (QQ G q I k o))
theorem RowsV.off {B g:Nat}{w X:World}{o:Value}{vs:List Value}{LL:List (List (List Int))}{c:Array Value}{T:TypeId}{fr:Nat×Nat}(h:RowsV B w o vs LL)(q:w.heap[g]? =some (.cells c T fr))(D:T≠67)(O:T≠24)(J:T≠5)(r: ∀k,k≠g→X.heap[k]? =w.heap[k]?):RowsV B X o vs LL:=
 ⟨qF h.1 (fun k I=>r k (QQ h.1 q D k I)),fun i G=>(h.2.1 i G).off q O J r,h.2.2⟩
theorem RowsV.put {B q n J:Nat}{w w1:World}{vs:List Value}{o:List (List (List Int))}{CO:List (List Int)}{U:List Int}{x:Value}(h:RowsV B w (.slice (some ⟨q,0,none⟩) n J) vs (o++[CO]))(h1:ListO B w1 x (CO++[U]))(r:KB B w w1)(V:Spare (fun k=>(vs.getD o.length undef).ownBlock≠some k) w w1)
  (ac:x.ownBlock=(vs.getD o.length undef).ownBlock∨ ∀g,x.ownBlock=some g→w.heap.size≤g):RowsV B (w1.setCell ⟨q,o.length,none⟩ x) (.slice (some ⟨q,0,none⟩) n J) (vs.set o.length x) (o++[CO++[U]]):=by
 have hl:=h.len;simp only[List.length_append,List.length_singleton]at hl;obtain⟨ho,hx,hd⟩:=h;have O:=hx o.length (by simp);obtain⟨xs,ab⟩:=O.row;rcases ho.2 with⟨e, -⟩|⟨g,ad,X,e,p1,p2,p3,p4,p5,p6⟩
 ·cases e
 simp only[Value.slice.injEq,Option.some.injEq,Addr.mk.injEq,and_true]at e;obtain⟨rfl,rfl,rfl⟩:=e;have q2:w1.heap[q]? =some (.cells X 67 (0,0)):=(V.block q (Ai p2).1 (fun e=>QQ ab p2 (by decide) q e rfl)).trans p2;have hX: ∀k,k≠q→(w1.setCell ⟨q,o.length,none⟩ x).heap[k]? =w1.heap[k]? :=fun k r=>heap_setCell_other _ _ _ _ r
 refine⟨⟨by simp[hl],.inr ⟨q,J,_,by simp,p1,heap_setCell_same _ q o.length X _ x q2,by simpa using p3,p4,by simpa using p5,?_⟩⟩,fun i hi=>?_,fun i j g Z hj D=>?_⟩
 ·rw[←p6,Array.toList_setIfInBounds,List.take_set];simp
 ·rw[QD _ _ _ _ _ (by omega)];simp only[List.length_append,List.length_singleton]at hi;by_cases aa:o.length=i
  ·subst aa;rw[if_pos rfl,qI,if_neg (by omega),if_pos rfl];exact h1.off q2 (by decide) (by decide) hX
  ·rw[if_neg aa,qI,if_pos (by omega)];have G:=hx i (by simp;omega);rw[qI,if_pos (by omega)]at G;obtain⟨ys,I⟩:=G.row;exact(G.kb r (fun k r=>V.block k (qm I k r) (fun e=>hd i o.length k (by omega) (by simp) r e))).off q2 (by decide) (by decide) hX
 ·rw[QD _ _ _ _ _ (by omega)]at D⊢;simp only[List.length_append,List.length_singleton]at hj;rw[if_neg (by omega)]at D;by_cases Y:o.length=j
  ·subst Y;rw[if_pos rfl];have G:=hx i (by simp;omega);obtain⟨ys,I⟩:=G.row;have h5:=qm I g D;rcases ac with h4|h4
   ·rw[h4];exact hd i o.length g Z (by simp) D
   ·intro e;have:=h4 g e;omega
  ·rw[if_neg Y];exact hd i j g Z (by simp;omega) D
def TreeV.accL (t:TreeV)(done:List (List CallS))(cur:List CallS):List (List (List Int)):=done.map (·.map t.outC)++(if cur.isEmpty then [] else [cur.map t.outC])
def qiJ (t:TreeV)(w0:World)(bl:Nat)(done:List (List CallS))(cur:List CallS)(F:Nat→Prop)(w:World):Prop:=
 ∃lv vs,w.heap[bl]? =some (.cells #[lv] 70 (0,0))∧w0.heap.size≤bl∧RowsV w0.heap.size w lv vs (t.accL done cur)∧ ∀k,F k↔k=bl∨lv.ownBlock=some k∨ ∃i,i<(t.accL done cur).length∧(vs.getD i undef).ownBlock=some k
theorem qfZ {t:TreeV}{w0 w:World}{J:Nat}{q:List (List CallS)}{D:List CallS}{F:Nat→Prop}(h:qiJ t w0 J q D F w): ∀k,F k→w0.heap.size≤k∧k<w.heap.size:=by
 obtain⟨V,vs,U,I,r,O⟩:=h;intro k o;rcases(O k).1 o with rfl|o|⟨i,hi,o⟩
 ·exact⟨I,(Ai U).1⟩
 ·exact⟨Qy r.1 k o,qm r.1 k o⟩
 ·obtain⟨xs,G⟩:=(r.2.1 i hi).row;exact⟨Qy G k o,qm G k o⟩
theorem qh0 (t:TreeV)(o:List (List CallS))(q:List CallS)(s:CallS):t.accL o (q++[s])=o.map (·.map t.outC)++[q.map t.outC++[t.outC s]]:=by
 unfold TreeV.accL;rw[if_neg (by simp)];simp
theorem qbS (t:TreeV)(o:List (List CallS)):t.accL o []=o.map (·.map t.outC):=by simp[TreeV.accL]
theorem JU (t:TreeV)(q:List (List CallS)){o:List CallS}(h:o≠[]):t.accL q o=q.map (·.map t.outC)++[o.map t.outC]:=by
 unfold TreeV.accL;rw[if_neg (by simpa using h)]
theorem qgS (t:TreeV)(o:List (List CallS)){q:List CallS}(r:q≠[]):t.accL (o++[q]) []=t.accL o q:=by
 rw[qbS,JU t o r,List.map_append];rfl
theorem Jm:(Tryz.prog.info? 67).map (fun i=>(i.zero,i.size,i.bytes))=some (some (.slice none 0 0),1,24):=by kernel_rfl
theorem jT {ops:Array Oper}{q:List Oper}{o:Oper}{D:Act}{w:World}{Q:Exit→Act→World→Prop}(O:o.guard=none)(x:Operand)(V:o.op= .buildSlice 70 1 #[(0,x)])(a:Option Addr)(n k:Nat)(J:D.eval x= .slice a n k)
  (h:wpList Tryz.prog ops Q q (D.put o.dst (.slice (some ⟨w.heap.size,0,none⟩) 1 1)) (w.alloc (.cells #[.slice a n k] 67))):wpList Tryz.prog ops Q (o::q) D w:=by
 obtain⟨U,I,G,r, -⟩:=info_parts Jm;exact wpList_buildSlice O 70 67 1 _ V #[.slice a n k] U _ Tryz.underlying70 I G (by rw[r];decide) (by rw[r];decide) (by rw[r,show Array.range (1*1)= #[0] by decide];simp[J,Instr.fill,Value.cells]) h
theorem qfr (args:Array Value)(W:World):(callFunc 109 args).run Tryz.prog W= .ok (.enter 109 args) W:=by
 simp[callFunc,Tryz.func109,Tryz.f109]
theorem qcn {t:TreeV}{kz z1 z2:List Int}{w0:World}(hT:TreeOk t kz z1 z2 w0)(r:Nat):Seer t kz z1 z2 w0 109 r (qiJ t w0 r):=by
 refine⟨fun h=>qfZ h,fun h hb hF hB=>?_,fun hc h=>?_,fun h br hr hi cG ck hw a5 aV bk hd=>?_⟩
 ·obtain⟨lv,vs,h1,h2,h3,h4⟩:=h;exact⟨lv,vs,by rw[hF r ((h4 r).2 (.inl rfl))];exact h1,h2,h3.tend hB (fun g Z=>hF g ((h4 g).2 (.inr (.inl Z)))) (fun i g hi Z=>hF g ((h4 g).2 (.inr (.inr ⟨i,hi,Z⟩)))),h4⟩
 ·obtain⟨lv,vs,h1,h2,h3,h4⟩:=h;rw[←qgS t _ hc]at h3 h4;exact⟨lv,vs,h1,h2,h3,h4⟩
 ·rename_i J O F w row i la rt d bv kv dv;have bE:=qfZ h;obtain⟨lv,vs,h1,h2,h3,h4⟩:=h;obtain⟨b0,ac⟩:=Ex w.heap.size;have cI:r<w.heap.size:=(Ai h1).1;have cy:w0.heap.size≤b0:=by have:=hw.size;omega
  obtain⟨a1,n1,c1,rfl⟩:=qs a5;obtain⟨a2,n2,c2,rfl⟩:=qs aV;obtain⟨a3,c3,rfl, -, -⟩:=bk.hold.slice;obtain⟨ak,aa,aj,rfl⟩:=qs h3.1;have bz:aa=(t.accL J O).length:=by
   rcases h3.1.2 with⟨e,e2⟩|⟨g,cb,O,e, -⟩
   ·simp only[Value.slice.injEq]at e;omega
   ·simp only[Value.slice.injEq]at e;omega
  have bn:Below b0 w (w.alloc (.cells #[.int .i64 t.k,.slice a1 n1 c1,.slice a2 n2 c2,.bool la,.int .i64 (t.outN rt),.slice a3 d.length c3] 73)):=by rw[←ac];exact Br.alloc Nl _
  have aQ:=Wn w (.cells #[.int .i64 t.k,.slice a1 n1 c1,.slice a2 n2 c2,.bool la,.int .i64 (t.outN rt),.slice a3 d.length c3] 73);rw[ac]at aQ;have b4:=ac▸bn;obtain⟨ND,bb⟩:=Ex (t.node kz z1 z2 row i la rt d);have aX:=fun(W:World) (hb:Below b0 w W)=>qiw hT (row:=row) (at_:=i) hr (by omega) la rt d (.slice a3 d.length c3) (.slice a1 n1 c1) (.slice a2 n2 c2) W _ (qi a5 (fun g _ g2=>hb.block g (by omega))) (qi aV (fun g _ g2=>hb.block g (by omega))) (bk.hold.below (ac▸hb)) hd
  rw[bb]at aX⊢;have bS:=hid aX;have a7:=hid (qh0 t J O (t.callS kz z1 z2 row i la rt d));rw[qaU,bb]at a7;have H3:=hid h3;have H4:=hid h4;have cP:=hid bE;have bq:=hid bn;have bQ:=hid h1;have bs:=hid (show(J.map (·.map t.outC)).length=row by rw[List.length_map];exact br);have cE:=hid (show(O.map t.outC).length≤8388608 by rw[List.length_map];exact ck);have bW:=hid bz;clear h1 h3 h4 bE a5 aV bk cG bn b4 hd hw hT aX bb br bz;unfold yW;go_enter Tryz.func109,Tryz.ntmps109
  go_upto_region 1 with(fail)
  generalize w.alloc (.cells #[.int .i64 t.k,.slice a1 n1 c1,.slice a2 n2 c2,.bool la,.int .i64 (t.outN rt),.slice a3 d.length c3] 73)=wA at*;have cN:b0<wA.heap.size:=(Ai aQ).1;go_wp2_with ((with_reducible show wpList _ _ _ (Oper.mk _ (Op.load 73 _) _ _ _ _::_) _ _);refine wpList_load_row rfl 73 _ rfl b0 rfl _ _ _ _ aQ Tryz.underlying73 rfl (by kernel_rfl) ?_)
  refine(bS.out wA bq.out).mono ?_;rintro e w9 ⟨u,rfl,hu,bo⟩;obtain⟨u1,u3,rfl, -, -⟩:=hu.hold.slice;have ai:=hid (bq.out.trans (bo.mono (show b0≤wA.heap.size by omega)));have HU:=hid (hu.le (show b0≤wA.heap.size by omega));have ag:=hid ((ai.out.block r (by omega)).trans bQ.out);have bx:=bo.size;have bI:=KB.of_below (ac▸ai.out) (Nat.zero_le _);have aT:=hid (H3.out.tend bI.bytes (fun g Z=>ai.out.block g (by have:=qm H3.out.1 g Z;omega)) (fun i g hi Z=>ai.out.block g (by
   obtain⟨xs,hx⟩:=(H3.out.2.1 i hi).row;have:=qm hx g Z;omega)))
  clear hu bo aQ bI bq bQ H3 bS;have l9:w9.cell? ⟨r,0,none⟩=some (.slice ak aa aj):=qd ag.out 0;have s9:r<w9.heap.size:=by omega
  have f9:=frozen_of_row w9 r 0 _ _ ag.out;obtain⟨il,cC,ca,cp,cf⟩:=info_parts Jm;have cm: ∃q:Bool,(O=[]↔q=true)∧(((row:Nat):Int)==(aa:Int))=q:=by
   refine⟨_,?_,rfl⟩;rw[beq_iff_eq,bW.out];by_cases hc:O=[]
   ·subst hc;rw[qbS,bs.out];simp
   ·rw[JU t J hc,List.length_append,bs.out];simp only[hc,false_iff,List.length_singleton];omega
  obtain⟨q,hq,bJ⟩:=cm;have HQ:=hid hq;clear hq;have aM:=bs.out;generalize aY:J.map (·.map t.outC)=DO at*;generalize bt:O.map t.outC=CO at*;have ab: ∀k,(k=r∨(Value.slice ak aa aj).ownBlock=some k∨ ∃i,i<(t.accL J O).length∧(vs.getD i undef).ownBlock=some k)→F k:=fun k o=>(H4.out k).2 o
  clear H4 bW
  cases q
  case' false=>
   have aC:O≠[]:=fun e=>by have:=HQ.out.1 e;cases this
   have an:=JU t J aC;rw[aY,bt]at an;have HV:=aT.out;rw[an]at HV ab;have bV: ∀k,(k=r∨(Value.slice ak aa aj).ownBlock=some k∨ ∃i,i<(DO++[CO]).length∧(vs.getD i undef).ownBlock=some k)→F k∨b0≤k:=fun k o=> .inl (ab k o)
   have ah:=hid HV;have al:=hid bV;have af:=hid (Tend.of_below F (ac▸ai.out));have ay:=hid ag.out;have a9:=hid HU.out;clear HV ab bV an aT ag HU ai f9;go_upto_region 4 with(fail)
   clear l9;obtain⟨X,hX⟩:=Ex w9;have ci:b0≤X.heap.size:=by rw[←hX];omega
   have ar:r<X.heap.size:=by rw[←hX];omega
   clear bx s9;subst hX;rename World=>X
   generalize ak=av at*;generalize aa=nv at*;generalize aj=cv at*;generalize vs=aO at*
  case' true=>
   have aC:O=[]:=HQ.out.2 rfl;have an:t.accL J O=DO:=by rw[aC,qbS,aY]
   have bg:CO=[]:=by rw[←bt,aC];rfl
   have HV:=aT.out;rw[an]at HV ab;have aq:Below w9.heap.size w9 (w9.alloc (.cells #[.slice none 0 0] 67)):=Br.alloc Nl _;have a4:=KB.of_below aq (Nat.zero_le _);have bG:=HV.tend a4.bytes (fun g Z=>aq.block g (qm HV.1 g Z)) (fun i g hi Z=>aq.block g (by obtain⟨xs,hx⟩:=(HV.2.1 i hi).row;exact qm hx g Z));have bF:=Wn w9 (.cells #[.slice none 0 0] 67);have aI:(w9.alloc (.cells #[.slice none 0 0] 67)).ownsRow w0.heap.size 67 1 (.slice (some ⟨w9.heap.size,0,none⟩) 1 1) 1 [.slice none 0 0]:=⟨rfl,.inr ⟨_,1,_,rfl,by omega,bF,by decide,by decide,rfl,rfl⟩⟩;obtain⟨bN,aJ⟩:=Ex w9.heap.size;rw[show Value.slice (some ⟨w9.heap.size,0,none⟩) 1 1=Value.slice (some ⟨bN,0,none⟩) 1 1 by rw[aJ]]at aI;have co:(w9.alloc (.cells #[.slice none 0 0] 67)).heap.size=bN+1:=by rw[←aJ];simp
   have aD:=hid bG;have bm:=hid aI;have bj:=(aq.block r s9).trans ag.out;have aH:=hid bj;have bA:(Value.slice ak aa aj).ownBlock≠some r:=fun e=>QQ aD.out.1 aH.out (by decide) r e rfl
   have bf:=hid (ai.out.trans (aq.mono (show b0≤w9.heap.size by omega)));have bT:=hid (HU.out.kb a4);clear bG aI bj aq a4 bF HV;go_upto_region 4 with(first|((with_reducible show wpList _ _ _ (Oper.mk _ (Op.buildSlice _ _ _) _ _ _ _::_) _ _);refine jT rfl _ rfl none 0 0 rfl ?_;rw[aJ];generalize w9.alloc (.cells #[.slice none 0 0] 67)=wB at*)|(at_builtin;refine ZQ rfl _ _ _ rfl w0.heap.size 67 (by decide) il (.slice none 0 0) 1 24 Tryz.underlying70 cC ca cp cf rfl (by decide) (.slice ak aa aj) DO.length vs rfl aD.out.1 w0.heap.size (.slice (some ⟨bN,0,none⟩) 1 1) 1 [.slice none 0 0] rfl bm.out (by omega) (by simp[Value.oneCell']) (by unfold maxLen;omega) (by omega) (by omega) ?_;intro v' w' aw au ae bi;have ad:=(ae.block r (by omega) bA).trans aH.out;obtain⟨av,nv,cv,rfl⟩:=qs aw;have cg:w'.cell? ⟨r,0,none⟩=some (.slice ak aa aj):=qd ad 0;have cA:=frozen_of_row w' r 0 _ _ ad;have ch:r<w'.heap.size:=(Ai ad).1))
   refine qn ?_;intro X hX;have aS: ∀k,k≠r→X.heap[k]? =w'.heap[k]? :=fun k o=>by rw[hX];exact heap_setCell_other _ _ _ _ o
   have bR:RowsV w0.heap.size w' (.slice av nv cv) (vs++[.slice none 0 0]) (DO++[CO]):=by rw[bg];exact RowsV.snoc aD.out aw au ae
   have cB:=au.size;have ci:b0≤X.heap.size:=by rw[hX];simp[World.setCell];omega
   have ar:r<X.heap.size:=by rw[hX];simp[World.setCell];omega
   have ah:=hid (bR.off ad (by decide) (by decide) (by decide) aS);have ay:=hid (show X.heap[r]? =some (.cells #[.slice av nv cv] 70 (0,0)) by rw[hX];exact heap_setCell_same _ r 0 _ _ _ ad);have aG: ∀(k:Nat) (c:Array Value),wB.heap[k]? =some (.cells c 5 (0,0))→X.heap[k]? =some (.cells c 5 (0,0)):=fun k c h=>by
    have h2:=au.bytes k c h;rw[aS k (Y5 ad (by decide) k h2)];exact h2
   have a9:=hid (bT.out.tend aG);have af:=hid (show Tend F w X from⟨by
    refine(Spare.of_below (fun k=> ¬F k) (ac▸bf.out)).trans (T:=fun k=>k≠r∧(Value.slice ak aa aj).ownBlock≠some k) ?_ (fun k _ o=>⟨fun e=>o (ab k (.inl e)),fun e=>o (ab k (.inr (.inl e)))⟩);refine⟨by rw[hX];exact ae.os,by rw[hX];exact ae.tape,by rw[hX];exact ae.output,by rw[hX];simp[World.setCell];omega,fun k o hs=>?_⟩;exact(aS k hs.1).trans (ae.block k o hs.2),fun k c h=>aG k c ((KB.of_below (ac▸bf.out) (Nat.zero_le _)).bytes k c h)⟩)
   have aA:=aD.out.len;have al:=hid (show ∀k,(k=r∨(Value.slice av nv cv).ownBlock=some k∨ ∃i,i<(DO++[CO]).length∧((vs++[Value.slice none 0 0]).getD i undef).ownBlock=some k)→F k∨b0≤k from fun k o=>by
    rcases o with o|o|⟨i,hi,o⟩
    ·exact .inl (ab k (.inl o))
    ·rcases bi with h|h
     ·rw[h]at o;exact .inl (ab k (.inr (.inl o)))
     ·rw[h]at o;simp only[Option.some.injEq]at o;exact .inr (by omega)
    ·rw[qI,aA]at o;simp only[List.length_append,List.length_singleton]at hi;by_cases am:i<DO.length
     ·rw[if_pos am]at o;exact .inl (ab k (.inr (.inr ⟨i,am,o⟩)))
     ·rw[if_neg am,if_pos (by omega)]at o;cases o)
   generalize vs++[.slice none 0 0]=aO at*;clear hX aS bR cB aG aw au ae bi ad cg cA ch bA aA bg aC an aH aD bm bf bT aT ag HU ai f9 l9 ab bx s9 co aJ
  all_goals
   obtain⟨ib,b9,b8,cF,cz⟩:=info_parts yH;obtain⟨G,cb,e, -,bh,bK⟩:=z7 ah.out.1 (by simp);simp only[Value.slice.injEq]at e;obtain⟨rfl,rfl,rfl⟩:=e;have aA:=ah.out.len;have aR:=ah.out.2.1 DO.length (by simp);rw[qI,if_neg (by omega),if_pos rfl]at aR;obtain⟨rv,aL⟩:=Ex (aO.getD DO.length undef);have aW:X.cell? ⟨G,DO.length,none⟩=some rv:=bK _ _ (by
    rw[←aL,Lg,List.getElem?_eq_getElem (by rw[aA];simp)];rfl)
   obtain⟨cr,aZ⟩:=Qh ah.out.1 G rfl;rw[aL]at aR;obtain⟨xs,ao,bY⟩:=id aR;obtain⟨ra,rn,rc,rfl⟩:=qs ao;have cu:xs.length=CO.length:=by have:=ao.1;simpa using this
   have cj:r≠G:=fun e=>QQ ah.out.1 ay.out (by decide) G rfl e.symm
   have bP:(Value.slice ra rn rc).ownBlock≠some r:=fun e=>QQ ao ay.out (by decide) r e rfl
   have bU:(Value.slice ra rn rc).ownBlock≠some G:=fun e=>QQ ao aZ (by decide) G e rfl
   have hN:(DO++[CO]).length=row+1:=by simp[aM]
   rw[aM]at aW;generalize aP:(DO++[CO]).length=N at*;have cK:(row:Int)<(N:Int):=by omega
   have cQ:(N:Int)≤9223372036854775807:=by omega
   have HN:=hid hN;have cH:CO.length≤8388608:=cE.out;clear hN;have bC:=hid ao;have ce:=hid bY;have cx:=hid aW;have bd:=hid aZ;have aK:=hid aL;have bM:=hid bP;have bu:=hid bU;have bp:=hid aM;have bL:=hid aP;clear ao bY aW aZ aL bP bU aM bK aR aP aA aY bt;have V: ∀(W:World) (f:Bool),((f=false→Below X.heap.size X W)∧(f=true→Spare (fun k=>(Value.slice ra rn rc).ownBlock≠some k) X W∧KB w0.heap.size X W))→W.cell? ⟨r,0,none⟩=some (.slice (some ⟨G,0,none⟩) N cv)∧W.cell? ⟨G,row,none⟩=some (.slice ra rn rc)∧X.heap.size≤W.heap.size:=fun W f I=>by
    have h1:W.heap[r]? =X.heap[r]? ∧W.heap[G]? =X.heap[G]? ∧X.heap.size≤W.heap.size:=by
     cases f
     ·exact⟨(I.1 rfl).block r ar,(I.1 rfl).block G bh,(I.1 rfl).size⟩
     ·exact⟨(I.2 rfl).1.block r ar bM.out,(I.2 rfl).1.block G bh bu.out,(I.2 rfl).1.size⟩
    refine⟨qd (h1.1.trans ay.out) 0,?_,h1.2.2⟩;have:=cx.out
    rw[qd bd.out row]at this;rw[qd (h1.2.1.trans bd.out) row];exact this
   refine Yb (n:=9) (fun f W=>(f=false→Below X.heap.size X W)∧(f=true→Spare (fun k=>(Value.slice ra rn rc).ownBlock≠some k) X W∧KB w0.heap.size X W)) 8 [.v 20 (.slice (some ⟨G,0,none⟩) N cv),.v 21 (.int .i64 (row:Nat)),.v 22 (.slice (some ⟨G,0,none⟩) N cv),.v 23 (.int .i64 (row:Nat)),.v 24 (.pointer (some ⟨G,row,none⟩)),.v 25 (.slice ra rn rc),.v 26 (.slice u1 ND.length u3),.p 27 (fun u W=> ∃q,u= .slice (some ⟨q,0,none⟩) 1 1∧X.heap.size≤q∧W.heap[q]? =some (.cells #[.slice u1 ND.length u3] 24 (0,0))),.p 28 (fun u W=>ListO w0.heap.size W u (CO++[ND])∧(u.ownBlock=(Value.slice ra rn rc).ownBlock∨ ∀g,u.ownBlock=some g→X.heap.size≤g))] (by exact⟨(fun _ _ hb _ h=>by obtain⟨q,e,h1,h2⟩:=h;exact⟨q,e,h1,qg h2 hb⟩),(fun _ _ hb u h=>⟨h.1.below hb,h.2⟩),trivial⟩) ⟨fun _=>Br.drew,fun h=>(by cases h)⟩ (fun f W W' h hb=>⟨fun e=>(h.1 e).trans (hb.mono (h.1 e).size),fun e=>⟨(h.2 e).1.trans (Spare.of_below _ hb) (fun _ _ h=>h),(h.2 e).2.trans (KB.of_below hb (by have:=(h.2 e).1.size;omega))⟩⟩) ?_ ?_ ?_
   ·repeat' (with_reducible first|exact qz|refine qx ?_ ?_)
    all_goals try
     refine .inr ?_;intro A x W f hA I hf U D K hK;have a1:=hA.2 1 (by decide);conv at a1=>rhs;whnf
     have a2:=hA.2 2 (by decide);conv at a2=>rhs;whnf
     have a6:=hA.2 6 (by decide);conv at a6=>rhs;whnf
     simp only[QW,Q8]at D;have y0:=(V W f I).1;have y1:=(V W f I).2.1;have y2:=(V W f I).2.2;have y3:r<W.heap.size:=by omega
     have y4:G<W.heap.size:=by omega
     clear U hA;go_simp
     exact hK _ _ BR rfl
    any_goals exact .inl rfl
    all_goals refine .inr ?_
    intro A x W f hA I hf U _ K hK;have cq:=gw hA U 6 26;clear U hA;have cJ:A.tmps[26]?.getD undef= .slice u1 ND.length u3:=by rw[←Lh];exact cq
    go_simp
    exact hK _ _ (Br.alloc Nl _) ⟨W.heap.size,rfl,(V W f I).2.2,Wn W _⟩
   ·intro A x W hA I U K hK;have cl:=gw hA U 5 25;have b7:(fun u W=> ∃q,u= .slice (some ⟨q,0,none⟩) 1 1∧X.heap.size≤q∧W.heap[q]? =some (.cells #[.slice u1 ND.length u3] 24 (0,0))) (x 27) W:=U ⟨7,.data⟩ (by simp) rfl;have cD:A.tmps.getD 27 undef=x 27:=hA.1 27 (by decide);clear U hA;have hB:=I.1 rfl;have ho:=qi bC.out (fun g _ Z=>hB.block g Z);obtain⟨qb,eq,cO,bJ⟩:=b7;refine yx _ _ 67 rfl w0.heap.size 24 ib (.slice none 0 0) 24 Tryz.underlying67 b9 b8 cF cz rfl (.slice ra rn rc) CO.length xs cl ho (.slice (some ⟨qb,0,none⟩) 1 1) 1 [.slice u1 ND.length u3] (cD.trans eq) ⟨rfl,by simp[Value.oneCell'],.inr ⟨⟨qb,0,none⟩,1,rfl,zJ bJ⟩⟩ (by unfold maxLen;omega) (by omega) (by have:=hB.size;omega) ?_;intro v' w' k1 k2 k3;obtain⟨k4,k5⟩:=qbE ho (by decide) k2 (by have:=hB.size;omega);have cc: ∀k,(Value.slice ra rn rc).ownBlock=some k→k<X.heap.size:=fun k o=>qm bC.out k o
    have k6:ListO w0.heap.size w' v' (CO++[ND]):=ListO.snoc (w:=W) (vs:=xs) (x:= .slice u1 ND.length u3) (fun i hi=>(ce.out i hi).kb (KB.of_below hB (Nat.zero_le _))) cu ((a9.out.kb (KB.of_below hB (Nat.zero_le _))).le cy) k1 k4;refine hK v' w' (fun h=>by cases h) ⟨fun h=>(by cases h),fun _=>⟨(Spare.of_below _ hB).trans k5 (fun _ _ h=>h),(KB.of_below hB (by omega)).trans k4⟩⟩ ⟨.inr (fun _ h=>h),.inr (fun _ h=>h),.inr (fun _ h=>h),.inr (fun _ h=>h),.inr (fun _ h=>h),.inr (fun _ h=>h),.inr (fun _ h=>h),.inr (fun u h=>by obtain⟨q,e,j1,j2⟩:=h;exact⟨q,e,j1,(k5.block q (Ai j2).1 (fun e2=>by have:=cc q e2;omega)).trans j2⟩),.inl rfl,trivial⟩ ⟨k6,?_⟩;rcases k3 with k3|k3
    ·exact .inl k3
    ·refine .inr fun g Z=>?_
     rw[k3]at Z;cases Z;exact hB.size
   intro x W I bZ;obtain⟨-,ap, -⟩:=bZ;change (fun u W=>ListO w0.heap.size W u (CO++[ND])∧(u.ownBlock=(Value.slice ra rn rc).ownBlock∨ ∀g,u.ownBlock=some g→X.heap.size≤g)) (x 28) W at ap
   obtain⟨y0,y1,y2⟩:=V W true I;obtain⟨az,aU⟩:=I.2 rfl;obtain⟨aN,ax⟩:=ap;obtain⟨ys,bD⟩:=aN.row;obtain⟨a8,n8,c8,ap⟩:=qs bD;rw[ap]at aN ax;refine qp ?_;simp only[QF,Act.put,Ls,ap];have aF:=RowsV.put (w1:=W) (x:= .slice a8 n8 c8) ah.out aN aU (by rw[aK.out];exact az) (by rw[aK.out];exact ax);rw[bp.out]at aF;have aE:W.heap[G]? =some (.cells cr 67 (0,0)):=(az.block G bh bu.out).trans bd.out;have ba:W.heap[r]? =some (.cells #[.slice (some ⟨G,0,none⟩) N cv] 70 (0,0)):=(az.block r ar bM.out).trans ay.out;have ct:W.frozen? ⟨G,row,none⟩=false:=frozen_of_row W G row _ _ aE;have y4:G<W.heap.size:=by omega
   have b5:=hid aF;have b6:=hid aE;have b3:=hid ba;have aB:=hid az;have cn:=hid aU;have cw:=hid ax;generalize x 27=cL;clear aF aE ba az aU ax bD aN ap I V y0;go_wp2_with fail
   refine qp ?_;go_wp2_with fail
   refine qw ?_;have be: ∀k,k≠G→(W.setCell ⟨G,row,none⟩ (.slice a8 n8 c8)).heap[k]? =W.heap[k]? :=fun k o=>heap_setCell_other _ _ _ _ o
   have bO:(W.setCell ⟨G,row,none⟩ (.slice a8 n8 c8)).heap.size=W.heap.size:=by simp[World.setCell]
   have bw: ∀(k:Nat) (c:Array Value),X.heap[k]? =some (.cells c 5 (0,0))→(W.setCell ⟨G,row,none⟩ (.slice a8 n8 c8)).heap[k]? =some (.cells c 5 (0,0)):=fun k c h=>by
    have h3:=cn.out.bytes k c h;rw[be k (Y5 b6.out (by decide) k h3)];exact h3
   have bH:=hid bw;have bX:=hid be;have cd:=hid bO;have bc:=hid (show(W.setCell ⟨G,row,none⟩ (.slice a8 n8 c8)).os=w.os∧(W.setCell ⟨G,row,none⟩ (.slice a8 n8 c8)).tape=w.tape∧(W.setCell ⟨G,row,none⟩ (.slice a8 n8 c8)).output=w.output from⟨aB.out.os.trans af.out.sp.os,aB.out.tape.trans af.out.sp.tape,aB.out.output.trans af.out.sp.output⟩);clear bw be bO ct y1 y2 y4;generalize W.setCell ⟨G,row,none⟩ (.slice a8 n8 c8)=Y at*;go_wp2
   go_ret
   have aP:=bL.out;simp only[List.length_append,List.length_singleton]at aP;have cM:aO.length=N:=by have:=ah.out.len;rw[bL.out]at this;exact this
   refine⟨_,fun k=>k=r∨(Value.slice (some ⟨G,0,none⟩) N cv).ownBlock=some k∨ ∃i,i<(DO++[CO++[ND]]).length∧((aO.set row (.slice a8 n8 c8)).getD i undef).ownBlock=some k,rfl,by rw[ac];exact a9.out.tend bH.out,?_,⟨_,_,(bX.out r cj).trans b3.out,h2,by rw[a7.out];exact b5.out,fun k=>by rw[a7.out]⟩,?_,fun k c h=>bH.out k c (af.out.bytes k c h)⟩
   ·rw[ac];rintro k (o|o|⟨i,hi,o⟩)
    ·exact al.out k (.inl o)
    ·exact al.out k (.inr (.inl o))
    ·simp only[List.length_append,List.length_singleton]at hi;rw[QD _ _ _ _ _ (by omega)]at o;by_cases am:row=i
     ·rw[if_pos am]at o;rcases cw.out with h|h
      ·rw[h]at o;exact al.out k (.inr (.inr ⟨row,by omega,by rw[←bp.out,aK.out];exact o⟩))
      ·exact .inr (by have:=h k o;omega)
     ·rw[if_neg am]at o;exact al.out k (.inr (.inr ⟨i,by omega,o⟩))
   ·refine af.out.sp.trans (T:=fun k=>k≠G∧(Value.slice ra rn rc).ownBlock≠some k) ⟨bc.out.1.trans af.out.sp.os.symm,bc.out.2.1.trans af.out.sp.tape.symm,bc.out.2.2.trans af.out.sp.output.symm,by rw[cd.out];exact aB.out.size,fun k o hs=>(bX.out k hs.1).trans (aB.out.block k o hs.2)⟩ (fun k o hF=>⟨fun e=>?_,fun e=>?_⟩)
    ·rcases al.out k (.inr (.inl (by rw[e];rfl)))with h|h
     ·exact hF h
     ·omega
    ·rcases al.out k (.inr (.inr ⟨row,by omega,by rw[←bp.out,aK.out];exact e⟩))with h|h
     ·exact hF h
     ·omega
theorem CallAt.cells {w0 w:World}{B:Nat}{s:CallS}{c:List Value}(h:CallAt w0 B w s c): ∃D r q,c=[.int .i64 s.k,D,r,.bool s.la,.int .i64 s.o,q]∧Hold w D s.bs∧Hold w r s.kz∧Hold w q s.ds:=by
 obtain⟨a1,O,c1,a2,V,c2,U,X,Y,rfl,J,G,I⟩:=h;exact⟨_,_,_,rfl,J.hold,G.hold,I.hold⟩
theorem qfV {α:Type}{n:Nat}: ∀{cs:List (List α)},(∀c∈cs,c.length=n)→ ∀{i j:Nat},i<cs.length→j<n→cs.flatten[i*n+j]? =(cs.getD i [])[j]?
 | [],_,i,j,hi,_=>by simp at hi
 | c::cs,h,i,j,hi,hj=>by
  have o:=h c (List.mem_cons_self ..)
  cases i with
  | zero=>
   rw[List.flatten_cons,List.getElem?_append_left (by omega),Nat.zero_mul,Nat.zero_add];rfl
  | succ i=>
   have e:(i+1)*n+j - c.length=i*n+j:=by rw[o,Nat.add_mul];omega
   rw[List.flatten_cons,List.getElem?_append_right (by rw[o,Nat.add_mul];omega),e];exact qfV (fun c o=>h c (List.mem_cons_of_mem _ o)) (by simpa using hi) hj
theorem CallsO.form {w0 w:World}{B:Nat}{v:Value}{S:List CallS}(h:CallsO w0 B w v S): ∃a c,v= .slice a S.length c:=by
 obtain⟨cs, -,o, -⟩:=h;rcases o.2 with⟨rfl,e⟩|⟨g,r,q,rfl, -⟩
 ·exact⟨none,0,by rw[e]⟩
 ·exact⟨_,_,rfl⟩
theorem CallsO.get {w0 w:World}{B i:Nat}{v:Value}{S:List CallS}{s:CallS}(h:CallsO w0 B w v S)(hi:i<S.length)(hs:S.getD i .zero=s):
  ∃g D r J I G,v= .slice (some ⟨g,0,none⟩) S.length D∧B≤g∧w.heap[g]? =some (.cells r 73 (0,0))∧(∀j,j<6→r[i*6+j]? =(#[.int .i64 s.k,J,I,.bool s.la,.int .i64 s.o,G]:Array Value)[j]?)∧Hold w J s.bs∧Hold w I s.kz∧Hold w G s.ds:=by
 obtain⟨cs,hl,ho,Y⟩:=h;rcases ho.2 with⟨-,e⟩|⟨g,D,r,rfl,h1,h2,h3,h4,h5,h6⟩
 ·omega
 obtain⟨J,I,G,e,X,V,U⟩:=(Y i hi).cells;rw[hs]at e X V U;refine⟨g,D,r,J,I,G,rfl,h1,h2,fun j hj=>?_,X,V,U⟩;have O:=qfV (n:=6) (cs:=cs) (fun c Z=>by
  obtain⟨q,hq,rfl⟩:=List.mem_iff_getElem.1 Z;obtain⟨_,_,_,e, -⟩:=(Y q (by omega)).cells;rw[Lg (l:=cs),List.getElem?_eq_getElem hq]at e;rw[show cs[q]=_ from e];rfl) (i:=i) (j:=j) (by omega) hj
 rw[e,←h6,List.getElem?_take]at O;rw[if_pos (by omega)]at O;rw[←Array.getElem?_toList,O,←Array.getElem?_toList]
theorem Je (t:TreeV)(o z1 z2 zs:List Int){m i:Nat}(h:i<m):(t.allC o z1 z2 zs m).getD i []=t.callsR o z1 z2 zs i:=by simp[TreeV.allC,Lg,h]
theorem Zl {t:TreeV}(h:t.validE=0)(q:0≤t.l∧t.l≤4294967295)(o z1 z2 zs:List Int)(r:Nat):1≤(t.callsR o z1 z2 zs r).length∧(t.callsR o z1 z2 zs r).length≤zs.length+1:=by
 have:=YK h q o z1 z2 zs r
 unfold TreeV.callsR;rw[qQ];exact⟨this.1,this.2.1⟩
theorem RowsV.nil (B:Nat)(w:World):RowsV B w (.slice none 0 0) [] []:=⟨Wo _ _ _ _,fun i o=>by simp at o,fun i j g _ q=>by simp at q⟩
theorem RowsV.le {B b:Nat}{w:World}{o:Value}{vs:List Value}{LL:List (List (List Int))}(h:RowsV B w o vs LL)(q:b≤B):RowsV b w o vs LL:=⟨ownsRow_le h.1 q,fun i r=>(h.2.1 i r).le q,h.2.2⟩
theorem RowsV.below {B:Nat}{w w':World}{r:Value}{vs:List Value}{LL:List (List (List Int))}(h:RowsV B w r vs LL)(o:Below w.heap.size w w'):RowsV B w' r vs LL:=
 h.tend (KB.of_below o (Nat.zero_le _)).bytes (fun g q=>o.block g (qm h.1 g q)) (fun i g G q=>o.block g (by obtain⟨xs,D⟩:=(h.2.1 i G).row;exact qm D g q))
theorem RowsV.push {B:Nat}{w w':World}{I D x:Value}{vs:List Value}{LL:List (List (List Int))}{L:List (List Int)}(h:RowsV B w I vs LL)(X:ListO B w x L)(V: ∀i g,i<LL.length→(vs.getD i undef).ownBlock=some g→x.ownBlock≠some g)(ho:w'.ownsRow B 67 1 D (LL.length+1) (vs++[x]))(J:KB B w w')(G:Spare (fun k=>I.ownBlock≠some k) w w'):RowsV B w' D (vs++[x]) (LL++[L]):=by
 have O:=h.len;refine⟨by simpa using ho,fun i Y=>?_,fun i j g U Z q=>?_⟩
 ·simp only[List.length_append,List.length_singleton]at Y;rw[qI,qI,O];by_cases o:i<LL.length
  ·rw[if_pos o,if_pos o];obtain⟨xs,r⟩:=(h.2.1 i o).row;exact(h.2.1 i o).kb J (yg h.1 r (by decide) G)
  ·rw[if_neg o,if_neg o,if_pos (by omega),if_pos (by omega)];obtain⟨xs,r⟩:=X.row;exact X.kb J (yg h.1 r (by decide) G)
 ·simp only[List.length_append,List.length_singleton]at Z;rw[qI,O]at q⊢;by_cases o:j<LL.length
  ·rw[if_pos (by omega)]at q;rw[if_pos o];exact h.2.2 i j g U o q
  ·rw[if_pos (by omega)]at q;rw[if_neg o,if_pos (by omega)];exact V i g (by omega) q
theorem qg9 (t:TreeV)(v:Value)(w:World)(h:t.validE≠0):
  Calls Tryz.prog 69 #[t.val,v] w fun e w'=>e= .returned (.tuple #[.slice none 0 0,.int .i64 t.validE])∧Below w.heap.size w w':=by
 obtain⟨I,q⟩:=Ex w.heap.size;have J:=hid (Zc t);have r:Below I w (w.alloc (.cells #[.int .i64 t.k,.int .i64 t.d,.int .i64 t.f,.int .i64 t.p,.int .u32 t.l,.int .i64 t.i,.slice t.ka t.kl t.kc,.slice t.sa t.sl t.sc,.slice t.pa t.pl t.pc] 26)):=by rw[←q];exact Br.alloc Nl _
 have o:=Wn w (.cells #[.int .i64 t.k,.int .i64 t.d,.int .i64 t.f,.int .i64 t.p,.int .u32 t.l,.int .i64 t.i,.slice t.ka t.kl t.kc,.slice t.sa t.sl t.sc,.slice t.pa t.pl t.pc] 26);rw[q]at o;generalize t.validE=U at*;have V:(U != 0)=true:=by rw[bne_iff_ne];exact h
 clear h;unfold TreeV.val at*;go_enter Tryz.func69,Tryz.ntmps69
 go_upto_region 1 with(fail)
 generalize w.alloc (.cells #[.int .i64 t.k,.int .i64 t.d,.int .i64 t.f,.int .i64 t.p,.int .u32 t.l,.int .i64 t.i,.slice t.ka t.kl t.kc,.slice t.sa t.sl t.sc,.slice t.pa t.pl t.pc] 26)=O at*;go_wp2_with ((with_reducible show wpList _ _ _ (Oper.mk _ (Op.load 26 _) _ _ _ _::_) _ _);refine wpList_load_row rfl 26 _ rfl I rfl _ _ _ _ o Tryz.underlying26 rfl (by kernel_rfl) ?_)
 refine(J.out O).mono ?_;rintro e X ⟨rfl,D⟩;have G:=hid (r.trans (D.mono (by have:=(Ai o).1;omega)));clear o r D;go_wp2
 go_ret2
 exact⟨rfl,by rw[q];exact G.out⟩
theorem qeS (t:TreeV)(v:Value)(w:World)(h:t.validE≠0):
  Calls Tryz.prog 50 #[t.val,v] w fun e w'=>e= .returned (.tuple #[.slice none 0 0,.int .i64 t.validE])∧Below w.heap.size w w':=by
 obtain⟨I,q⟩:=Ex w.heap.size;have G:=hid (fun W=>qfk t v W h);have r:Below I w (w.alloc (.cells #[.int .i64 t.k,.int .i64 t.d,.int .i64 t.f,.int .i64 t.p,.int .u32 t.l,.int .i64 t.i,.slice t.ka t.kl t.kc,.slice t.sa t.sl t.sc,.slice t.pa t.pl t.pc] 26)):=by rw[←q];exact Br.alloc Nl _
 have o:=Wn w (.cells #[.int .i64 t.k,.int .i64 t.d,.int .i64 t.f,.int .i64 t.p,.int .u32 t.l,.int .i64 t.i,.slice t.ka t.kl t.kc,.slice t.sa t.sl t.sc,.slice t.pa t.pl t.pc] 26);rw[q]at o;generalize t.validE=U at*;have V:(U != 0)=true:=by rw[bne_iff_ne];exact h
 clear h;unfold TreeV.val at*;go_enter Tryz.func50,Tryz.ntmps50
 go_upto_region 1 with(fail)
 generalize w.alloc (.cells #[.int .i64 t.k,.int .i64 t.d,.int .i64 t.f,.int .i64 t.p,.int .u32 t.l,.int .i64 t.i,.slice t.ka t.kl t.kc,.slice t.sa t.sl t.sc,.slice t.pa t.pl t.pc] 26)=O at*;go_wp2_with ((with_reducible show wpList _ _ _ (Oper.mk _ (Op.load 26 _) _ _ _ _::_) _ _);refine wpList_load_row rfl 26 _ rfl I rfl _ _ _ _ o Tryz.underlying26 rfl (by kernel_rfl) ?_)
 refine(G.out O).mono ?_;rintro e X ⟨rfl,D⟩;have J:=hid (r.trans (D.mono (by have:=(Ai o).1;omega)));clear o r D;go_wp2
 go_ret2
 exact⟨rfl,by rw[q];exact J.out⟩
theorem qhb (t:TreeV)(kz z1 z2 zs:List Int)(v:Value)(w:World)(h:TreeOk t kz z1 z2 w)(hv:Hold w v zs)(hn:zs.length≤4194304):
  Calls Tryz.prog 69 #[t.val,v] w fun e w'=> ∃u,e= .returned (.tuple #[u,.int .i64 0])∧(∃R,t.topAt kz z1 z2 (t.leafZ kz z1 z2 zs) R∧ ∃vs,RowsV w.heap.size w' u vs (t.accL (t.allC kz z1 z2 zs R) (t.callsR kz z1 z2 zs R)))∧Below w.heap.size w w':=by
 obtain⟨I,O⟩:=Ex w.heap.size;have ag:=Zc t;simp only[h.v]at ag;have aE:=hid ag;have HT:=hid h;have aC:=hid (fun(W:World) (hb:Below I w W)=>qi0 t h.v h.l zs v W (hv.below (O▸hb)) (by omega));have ao:=hid (fun(q:Nat) (W:World) (x:Value) (F0:Nat→Prop) (hw:Below w.heap.size w W) (hI:qiJ t w q [] [] F0 W) (hx:ListO w.heap.size W x (yV t.ln zs)) (aa: ∀g,x.ownBlock=some g→ ¬F0 g)=>qg8 (qcn h q) h hn x W F0 hw hI hx aa qfr);obtain⟨va,vc,rfl, -, -⟩:=hv.slice;have aq:Below I w (w.alloc (.cells #[.int .i64 t.k,.int .i64 t.d,.int .i64 t.f,.int .i64 t.p,.int .u32 t.l,.int .i64 t.i,.slice t.ka t.kl t.kc,.slice t.sa t.sl t.sc,.slice t.pa t.pl t.pc] 26)):=by rw[←O];exact Br.alloc Nl _
 have Y:=Wn w (.cells #[.int .i64 t.k,.int .i64 t.d,.int .i64 t.f,.int .i64 t.p,.int .u32 t.l,.int .i64 t.i,.slice t.ka t.kl t.kc,.slice t.sa t.sl t.sc,.slice t.pa t.pl t.pc] 26);rw[O]at Y;generalize az:yV t.ln zs=CZ at*;clear h hv ag az;unfold TreeV.val at*;go_enter Tryz.func69,Tryz.ntmps69
 go_upto_region 1 with(fail)
 generalize w.alloc (.cells #[.int .i64 t.k,.int .i64 t.d,.int .i64 t.f,.int .i64 t.p,.int .u32 t.l,.int .i64 t.i,.slice t.ka t.kl t.kc,.slice t.sa t.sl t.sc,.slice t.pa t.pl t.pc] 26)=wA at*;go_wp2_with ((with_reducible show wpList _ _ _ (Oper.mk _ (Op.load 26 _) _ _ _ _::_) _ _);refine wpList_load_row rfl 26 _ rfl I rfl _ _ _ _ Y Tryz.underlying26 rfl (by kernel_rfl) ?_)
 refine(aE.out wA).mono ?_;rintro e w2 ⟨rfl,af⟩;have ae:=qg Y af;have am:=aq.trans (af.mono (by have:=(Ai Y).1;omega));have aF:=hid am;have aL:I<w2.heap.size:=(Ai ae).1;clear Y aq af am;go_upto_region 5 with(fail)
 refine qn ?_;intro V hV;obtain⟨q,Z⟩:=Ex w2.heap.size;have aj:V.heap[q]? =some (.cells #[.slice none 0 0] 70 (0,0)):=by rw[hV,←Z];exact Wn _ _
 have ad:Below q w2 V:=by rw[hV,←Z];exact Br.alloc Nl _
 have ac:V.heap[I]? =some (.cells #[.int .i64 t.k,.int .i64 t.d,.int .i64 t.f,.int .i64 t.p,.int .u32 t.l,.int .i64 t.i,.slice t.ka t.kl t.kc,.slice t.sa t.sl t.sc,.slice t.pa t.pl t.pc] 26 (0,0)):=(ad.block I (by omega)).trans ae;have ap:=hid (aF.out.trans (ad.mono (show I≤q by omega)));have aw:q<V.heap.size:=(Ai aj).1;have ak:qiJ t w q [] [] (fun k=>k=q) V:=⟨.slice none 0 0,[],aj,by omega,RowsV.nil _ _,fun k=>⟨fun h=> .inl h,fun h=>by
  rcases h with h|h|⟨i,hi,h⟩
  ·exact h
  ·cases h
  ·simp[TreeV.accL]at hi⟩⟩
 have ai:=hid ak;rw[Z];have aI:I<q:=by omega
 clear hV ad ae Z aj ak;refine qE (n:=5) (w0:=V) (B:=V.heap.size) [.v 13 (.agg #[.int .i64 t.k,.int .i64 t.d,.int .i64 t.f,.int .i64 t.p,.int .u32 t.l,.int .i64 t.i,.slice t.ka t.kl t.kc,.slice t.sa t.sl t.sc,.slice t.pa t.pl t.pc]),.v 14 (.agg #[.int .i64 t.k,.int .i64 t.d,.int .i64 t.f,.int .i64 t.p,.int .u32 t.l,.int .i64 t.i,.slice t.ka t.kl t.kc,.slice t.sa t.sl t.sc,.slice t.pa t.pl t.pc]),.v 15 (.slice va zs.length vc),.p 16 (fun u W=>ListO V.heap.size W u CZ),.v 17 (.func (.func 109) #[] #[.pointer (some ⟨q,0,none⟩)])] (by exact⟨(fun _ _ _ h hb=>ListO.below h hb),trivial⟩) Br.drew Nl ?_ ?_
 ·repeat' (with_reducible first|exact qz|refine qx ?_ ?_)
  ·intro AA x W r G J o D K U;have a2:=r.2 2 (by decide);conv at a2=>rhs;whnf
   clear o r;exact wp_load_row 26 _ rfl I a2 _ _ _ _ (qg ac G) Tryz.underlying26 rfl (by kernel_rfl) (U _ _ Br rfl)
  ·intro AA x W r G J o D K U;have a2:=r.2 2 (by decide);conv at a2=>rhs;whnf
   clear o r;exact wp_load_row 26 _ rfl I a2 _ _ _ _ (qg ac G) Tryz.underlying26 rfl (by kernel_rfl) (U _ _ Br rfl)
  ·intro AA x W r G J o D K U;have a1:=r.2 1 (by decide);conv at a1=>rhs;whnf
   clear o r;go_simp
   exact U _ _ Br rfl
  ·intro AA x W r G J o _ K U;have aK:=gv r o 1 14;have aN:=gv r o 2 15;clear o r;go_simp
   refine(aC.out W (ap.out.trans (G.mono (by omega)))).mono ?_;rintro e w5 ⟨u,rfl,ho,ay⟩;exact U _ _ ay (ho.le J)
  ·intro AA x W r G J o D K U;have a7:=r.2 7 (by decide);conv at a7=>rhs;whnf
   clear o r;go_simp
   exact U _ _ Br rfl
 intro x W G J ar;obtain⟨ab, -⟩:=ar;change (fun u W=>ListO V.heap.size W u CZ) (x 16) W at ab
 refine qp ?_;simp only[QF,Act.put,Ls];generalize x 16=X at*;have aa: ∀g,X.ownBlock=some g→ ¬g=q:=fun g hg e=>by
  obtain⟨vs,ho, -⟩:=ab;rcases ho.2 with⟨rfl, -⟩|⟨g2,aJ,aM,rfl,h5, -⟩
  ·cases hg
  ·simp only[Value.ownBlock,Option.some.injEq]at hg;omega
 have al:=ap.out.trans (G.mono (show I≤V.heap.size by omega));have hk:=KB.of_below G (Nat.zero_le _);have ah:=(qcn HT.out q).keep ai.out (G.mono (show w.heap.size≤V.heap.size by omega)) (fun k hk=>G.block k (by rw[show k=q from hk];exact aw)) hk.bytes;have HR:=hid (ao.out q W X (fun k=>k=q) (by rw[O];exact al) ah (by rw[O];exact ab.le (by omega)) aa);have aA:=hid al;have aH:q<W.heap.size:=by have:=G.size;omega
 clear ab aa al hk ah ao ai ac;go_wp2_with fail
 refine HR.out.mono ?_;rintro e w6 ⟨rfl,⟨R,F',hR,hI, -⟩,an, -⟩;go_wp2_with fail
 refine qw ?_;obtain⟨lv,vs,l1,l2,l3, -⟩:=hI;obtain⟨aD,ax,av,rfl⟩:=qs l3.1;have c0:w6.cell? ⟨q,0,none⟩=some (.slice aD ax av):=qd l1 0;have s0:q<w6.heap.size:=(Ai l1).1;have aG:=hid l3;have aB:=hid an;have au:=hid hR;clear l1 l3 an hR;go_wp2
 go_ret2
 exact⟨_,rfl,⟨R,au.out,_,aG.out⟩,(show Below w.heap.size w W by rw[O];exact aA.out).trans aB.out⟩
theorem qc5 {t:TreeV}{o z1 z2:List Int}{w:World}(h:TreeOk t o z1 z2 w){row at_:Nat}(X:row≤255)(ha:at_<281474976710656)(la rt:Bool)(ds:List Int)(q D r:Value)(W:World)
  (Y:Hold W D (t.blk z1 z2 row at_)) (J:Hold W r (Za row o)) (I:Hold W q ds) (hl:ds.length≤1073741824):
  Calls Tryz.prog 85 #[.agg #[.int .i64 t.k,D,r,.bool la,.int .i64 (t.outN rt),q]] W fun e w'=> ∃u,e= .returned (.tuple #[u,.int .i64 0])∧OwnB W.heap.size w' u (t.node o z1 z2 row at_ la rt ds)∧Below W.heap.size W w':=by
 obtain⟨V,O,h3,U⟩:=h.okD X ha;rw[←YJ h.v];have h5:=U rt;refine(qbt t.big _ _ ds la _ D r q W Y J I (by omega) V O (by omega)).mono ?_;rintro e w' ⟨⟨u,rfl,Z⟩,G⟩
 exact⟨u,rfl,⟨yQ t o z1 z2 row at_ la rt ds,Z⟩,G⟩
theorem qaW (t:TreeV)(o z1 z2 zs:List Int){r k:Nat}(h:k<(t.dataR o z1 z2 zs r).length):(t.callsR o z1 z2 zs r).getD k .zero=t.callS o z1 z2 r k (decide (k+1=(t.dataR o z1 z2 zs r).length)) (t.rtR o z1 z2 zs r) (qK (t.dataR o z1 z2 zs r) k):=by simp[TreeV.callsR,TreeV.rowC,Lg,h]
theorem qch {α β:Type}(f:α→β){L:List α}{k:Nat}(d:α)(h:k<L.length):(L.take (k+1)).map f=(L.take k).map f++[f (L.getD k d)]:=by
 rw[List.take_succ,List.map_append];simp[Lg,h]
theorem qgf (t:TreeV)(G z1 z2 zs:List Int)(v:Value)(w:World)(h:TreeOk t G z1 z2 w)(hv:Hold w v zs)(hn:zs.length≤4194304):
  Calls Tryz.prog 50 #[t.val,v] w fun e w'=> ∃u vs,e= .returned (.tuple #[u,.int .i64 0])∧RowsV w.heap.size w' u vs ((t.allC G z1 z2 zs ((t.rowsOf zs.length).length - 1+1)).map (·.map t.outC))∧Below w.heap.size w w':=by
 obtain⟨b0,aa⟩:=Ex w.heap.size;obtain⟨il,bf,aN,a4,aS⟩:=info_parts Jm;have bc:=hid (fun(W:World) (q:Below b0 w W)=>qgy t G z1 z2 zs v w W h hv (aa▸q) hn);have hR:=qM (YS h.v hn);have bd:t.pn≤255:=by have:=(qo h.v).2.2.2.2.2.2.2.1;unfold TreeV.pn;omega
 have ai:=hR.len;have ap:=hR.most;have aE:=t.allC_length G z1 z2 zs ((t.rowsOf zs.length).length - 1+1);have ba:=hid (show ∀i,i<(t.allC G z1 z2 zs ((t.rowsOf zs.length).length - 1+1)).length→((t.allC G z1 z2 zs ((t.rowsOf zs.length).length - 1+1)).getD i []).length≤8388608∧ ∀k,k<((t.allC G z1 z2 zs ((t.rowsOf zs.length).length - 1+1)).getD i []).length→ ∀s,((t.allC G z1 z2 zs ((t.rowsOf zs.length).length - 1+1)).getD i []).getD k .zero=s→ ∀(W:World) (bv kv dv:Value),Hold W bv s.bs→Hold W kv s.kz→Hold W dv s.ds→
   Calls Tryz.prog 85 #[.agg #[.int .i64 s.k,bv,kv,.bool s.la,.int .i64 s.o,dv]] W fun e w'=> ∃u,e= .returned (.tuple #[u,.int .i64 0])∧OwnB W.heap.size w' u (t.outC s)∧Below W.heap.size W w' from fun i hi=>by
  rw[aE]at hi;rw[Je t G z1 z2 zs hi];have ai:=Zl h.v h.l G z1 z2 zs i;have aP:=YK h.v h.l G z1 z2 zs i;refine⟨by omega,fun k hk s hs W bv kv dv p1 p2 p3=>?_⟩;have bg:k<(t.dataR G z1 z2 zs i).length:=by unfold TreeV.callsR at hk;rwa[qQ]at hk
  rw[qaW t G z1 z2 zs bg]at hs;subst hs;exact qc5 h (by omega) (by omega) _ _ _ dv bv kv W p1 p2 p3 (by have:=aP.2.2 k;show(qK _ _).length≤_;omega))
 generalize t.allC G z1 z2 zs ((t.rowsOf zs.length).length - 1+1)=D at*;have bp:D.length≤256:=by omega
 have bq:1≤D.length:=by omega
 have am:Below b0 w (w.alloc (.cells #[.int .i64 t.k,.int .i64 t.d,.int .i64 t.f,.int .i64 t.p,.int .u32 t.l,.int .i64 t.i,.slice t.ka t.kl t.kc,.slice t.sa t.sl t.sc,.slice t.pa t.pl t.pc] 26)):=by rw[←aa];exact Br.alloc Nl _
 have af:=Wn w (.cells #[.int .i64 t.k,.int .i64 t.d,.int .i64 t.f,.int .i64 t.p,.int .u32 t.l,.int .i64 t.i,.slice t.ka t.kl t.kc,.slice t.sa t.sl t.sc,.slice t.pa t.pl t.pc] 26);rw[aa]at af;clear h hv hR bd ai ap aE;unfold TreeV.val at*;go_enter Tryz.func50,Tryz.ntmps50
 go_upto_region 1 with(fail)
 generalize w.alloc (.cells #[.int .i64 t.k,.int .i64 t.d,.int .i64 t.f,.int .i64 t.p,.int .u32 t.l,.int .i64 t.i,.slice t.ka t.kl t.kc,.slice t.sa t.sl t.sc,.slice t.pa t.pl t.pc] 26)=wA at*;go_wp2_with ((with_reducible show wpList _ _ _ (Oper.mk _ (Op.load 26 _) _ _ _ _::_) _ _);refine wpList_load_row rfl 26 _ rfl b0 rfl _ _ _ _ af Tryz.underlying26 rfl (by kernel_rfl) ?_)
 refine(bc.out wA am).mono ?_;rintro e w2 ⟨u,rfl,hl,ah⟩;have aX:b0<wA.heap.size:=(Ai af).1;have bj:=hid (am.trans (ah.mono (show b0≤wA.heap.size by omega)));obtain⟨vs,ag,az⟩:=hl;obtain⟨g,bw,rfl, -,bD,ar⟩:=z7 ag (by omega);have bx:vs.length=D.length:=by have:=ag.1;simpa using this
 have bi:=hid ar;have aK:=hid (show ∀i,i<D.length→CallsO w b0 w2 (vs.getD i undef) (D.getD i []) from fun i hi=>(az i hi).le (by omega));obtain⟨J,aL⟩:=Ex w2.heap.size;have bo:b0<J:=by have:=ah.size;omega
 have bm:(D.length:Int)≤256:=by omega
 clear ag az ar ah af am aX;go_wp2_with fail
 go_loopw [8,9] (fun o i wr=> ∃j:Nat,i= .int .i64 (j:Nat)∧j≤D.length∧(∃us,RowsV J wr o us ((D.take j).map (·.map t.outC)))∧Below J w2 wr) (fun _ i _=>D.length - (intOf i).toNat)
 case atStart=>exact⟨0,rfl,Nat.zero_le _,⟨_,RowsV.nil _ _⟩,Below.refl _ _⟩
 case round=>
  obtain⟨j,rfl,hj,⟨us,ho⟩,q⟩:=hrel;rename World=>wq
  by_cases aj:j<D.length
  case pos=>
   have bl:(j:Int)<D.length:=by omega
   have ae:=(aK.out j aj).below (show w.heap.size≤w2.heap.size by omega) (aL▸q);have an:w2.cell? ⟨g,j,none⟩=some (vs.getD j undef):=bi.out j _ (by rw[Lg,List.getElem?_eq_getElem (by omega)];rfl);obtain⟨x,hx⟩:=Ex (vs.getD j undef);rw[hx]at ae an;obtain⟨bt,aD⟩:=ba.out j aj;have be:=hid (qch (fun z:List CallS=>z.map t.outC) [] aj);generalize D.getD j []=S at*;obtain⟨a8,c8,rfl⟩:=ae.form;have aM:wq.cell? ⟨g,j,none⟩=some (.slice a8 S.length c8):=(q.cell (p:=⟨g,j,none⟩) (show g<J by omega)).trans an;have bE:J≤wq.heap.size:=by have:=q.size;omega
   have aR:=hid aD;have aV:=hid ae;have HO:=hid ho;have HB:=hid q;obtain⟨bM,aB⟩:=Ex wq.heap.size;have br:(S.length:Int)≤8388608:=by omega
   obtain⟨a7,n7,c7,rfl⟩:=qs ho.1;clear ae an hx aD ho q;go_wp2_with fail
   go_loopw [10,11] (fun r k wr=> ∃m:Nat,k= .int .i64 (m:Nat)∧m≤S.length∧ListO bM wr r ((S.take m).map t.outC)∧Below bM wq wr) (fun _ k _=>S.length - (intOf k).toNat)
   case atStart=>exact⟨0,rfl,Nat.zero_le _,ListO.nil _ _,Below.refl _ _⟩
   case round=>
    obtain⟨m,rfl,hm,O,q⟩:=hrel;have aQ:wr.cell? ⟨g,j,none⟩=some (.slice a8 S.length c8):=(q.cell (p:=⟨g,j,none⟩) (show g<bM by omega)).trans aM;have ac:bM≤wr.heap.size:=by have:=q.size;omega
    have bu:g<wr.heap.size:=by omega
    by_cases ao:m<S.length
    case pos=>
     have bn:(m:Int)<S.length:=by omega
     obtain⟨s,hs⟩:=Ex (S.getD m .zero);obtain⟨g1,k1,aH,bv,kv,dv,e1, -,aF,aw,p1,p2,p3⟩:=(aV.out.below (by omega) (aB▸q)).get ao hs;simp only[Value.slice.injEq,true_and]at e1;obtain⟨rfl,rfl⟩:=e1;have aC:=hid (qch t.outC .zero ao);rw[hs]at aC;have bh:=hid (aR.out m ao s hs wr bv kv dv p1 p2 p3);have bk:=hid aF;have aW:=hid aw;have a3:=hid O;have a5:=hid q;obtain⟨xs,X⟩:=O.row;obtain⟨U,V,I,rfl⟩:=qs X;have bC:(m:Int)+1≤9223372036854775807:=by omega
     have aA:((S.take m).map t.outC).length≤8388608:=by rw[List.length_map,List.length_take];omega
     have aZ:=hid aA;clear hs aF aw p1 p2 p3 O q X aA;go_wp2_with ((with_reducible show wpList _ _ _ (Oper.mk _ (Op.load 73 _) _ _ _ _::_) _ _);refine wpList_plain rfl fun K hK=>Qf 73 _ rfl g1 (m*6) rfl 73 aH #[.int .i64 s.k,bv,kv,.bool s.la,.int .i64 s.o,dv] (0,0) _ bk.out Tryz.underlying73 rfl (by kernel_rfl) aW.out (hK _ _ ?_))
     refine bh.out.mono ?_;rintro e w5 ⟨u,rfl,hu,ad⟩;have HU:=hid (hu.le ac);have aY:=hid (a3.out.below ad);have bb:=hid (a5.out.trans (ad.mono ac));have bz:=ad.size;obtain⟨u1,u3,rfl, -, -⟩:=hu.hold.slice;generalize t.outC s=ND at*;clear hu ad aQ;go_wp2_with (first|((with_reducible show wpList _ _ _ (Oper.mk _ (Op.buildSlice _ _ _) _ _ _ _::_) _ _);refine QG rfl _ rfl _ _ _ rfl ?_)|(at_builtin;refine Jv rfl _ _ rfl bM (.slice U V I) ((S.take m).map t.outC) ND (.slice u1 ND.length u3) rfl aY.out HU.out rfl aZ.out (by omega) ?_;intro v' w' aG Y ak aI))
     exact⟨⟨m+1,rfl,by omega,by rw[aC.out];exact aG,bb.out.trans Y.below⟩,by simp[intOf];omega⟩
    obtain rfl:m=S.length:=by omega
    rw[List.take_length]at O;obtain⟨xs,X⟩:=O.row;obtain⟨U,V,I,rfl⟩:=qs X;have Z:Below wr.heap.size wr (wr.alloc (.cells #[.slice U V I] 67)):=Br.alloc Nl _;have av:=Wn wr (.cells #[.slice U V I] 67);have ab:(wr.alloc (.cells #[.slice U V I] 67)).ownsRow J 67 1 (.slice (some ⟨wr.heap.size,0,none⟩) 1 1) 1 [.slice U V I]:=⟨rfl,.inr ⟨_,1,_,rfl,by omega,av,by decide,by decide,rfl,rfl⟩⟩;obtain⟨bK,al⟩:=Ex wr.heap.size;rw[show Value.slice (some ⟨wr.heap.size,0,none⟩) 1 1=Value.slice (some ⟨bK,0,none⟩) 1 1 by rw[al]]at ab;have bA:(wr.alloc (.cells #[.slice U V I] 67)).heap.size=bK+1:=by rw[←al];simp
    have ax:=hid ((HO.out.below (aB▸q)).below Z);have aU:=hid ((O.below Z).le (show J≤bM by omega));have aJ:=hid ab;have a6:=hid (HB.out.trans ((q.trans (Z.mono ac)).mono (show J≤bM by omega)));have au:((D.take j).map (·.map t.outC)).length=j:=by rw[List.length_map,List.length_take];omega
    have ay:=hid au;have aT:=hid (show ∀i g,i<((D.take j).map (·.map t.outC)).length→(us.getD i undef).ownBlock=some g→(Value.slice U V I).ownBlock≠some g from fun i g hi hg e=>by
     obtain⟨ys,aO⟩:=(HO.out.2.1 i hi).row;have h1:=qm aO g hg;have h2:=Qy X g e;omega)
    clear ab Z av X O q au;go_wp2_with (first|((with_reducible show wpList _ _ _ (Oper.mk _ (Op.buildSlice _ _ _) _ _ _ _::_) _ _);refine jT rfl _ rfl _ _ _ rfl ?_;rw[al];generalize wr.alloc (.cells #[.slice U V I] 67)=wB at*)|(at_builtin;refine ZQ rfl _ _ _ rfl J 67 (by decide) il (.slice none 0 0) 1 24 Tryz.underlying70 bf aN a4 aS rfl (by decide) (.slice a7 n7 c7) ((D.take j).map (·.map t.outC)).length us rfl ax.out.1 J (.slice (some ⟨bK,0,none⟩) 1 1) 1 [.slice U V I] rfl aJ.out (by omega) (by simp[Value.oneCell']) (by rw[ay.out];unfold maxLen;omega) (by rw[ay.out];omega) (by omega) ?_;intro v' w' aq Y ak aI))
    refine⟨⟨j+1,rfl,by omega,⟨us++[.slice U V I],?_⟩,a6.out.trans Y.below⟩,by simp[intOf];omega⟩;rw[be.out];exact RowsV.push ax.out aU.out aT.out aq Y ak
  obtain rfl:j=D.length:=by omega
  rw[List.take_length]at ho;obtain⟨a7,n7,c7,rfl⟩:=qs ho.1;have HO:=hid (ho.le (show b0≤J by omega));have HB:=hid q;clear ho q;go_wp2
  go_ret2
  exact⟨_,us,rfl,by rw[aa];exact HO.out,by rw[aa];exact bj.out.trans (HB.out.mono (by omega))⟩
def TreeV.rowsZ (t:TreeV)(kz z1 z2 zs:List Int):List (List (List Int)):=if t.validE=0 then(t.allC kz z1 z2 zs ((t.rowsOf zs.length).length - 1+1)).map (·.map t.outC) else []
theorem qha (t:TreeV)(o z1 z2 zs:List Int)(v:Value)(w:World)(q:0≤t.l∧t.l≤4294967295)(O:Hold w (.slice t.ka t.kl t.kc) o)(X:Hold w (.slice t.sa t.sl t.sc) z1)(U:Hold w (.slice t.pa t.pl t.pc) z2)(Y:Hold w v zs)(G:zs.length≤4194304):
  Calls Tryz.prog 69 #[t.val,v] w fun e w'=> ∃u vs,e= .returned (.tuple #[u,.int .i64 t.validE])∧RowsV w.heap.size w' u vs (t.rowsZ o z1 z2 zs)∧Below w.heap.size w w':=by
 unfold TreeV.rowsZ;by_cases h:t.validE=0
 ·refine(qhb t o z1 z2 zs v w ⟨h,q,O,X,U⟩ Y G).mono ?_;rintro e w' ⟨u,rfl,⟨R,J,vs,D⟩,r⟩
  have V:=Qt h q o z1 z2 zs;have I:=qdz (YS h G) o z1 z2 (YP h q o z1 z2 zs) V.2.2;rw[qaS J I]at D;refine⟨u,vs,by rw[h],?_,r⟩;rw[if_pos h,TreeV.allC_succ,List.map_append];rw[JU t _ (List.length_pos_iff.1 (Zl h q o z1 z2 zs _).1)]at D;exact D
 ·refine(qg9 t v w h).mono ?_;rintro e w' ⟨rfl,r⟩
  exact⟨_,[],rfl,by rw[if_neg h];exact RowsV.nil _ _,r⟩
theorem qeT (t:TreeV)(q z1 z2 zs:List Int)(v:Value)(w:World)(I:0≤t.l∧t.l≤4294967295)(r:Hold w (.slice t.ka t.kl t.kc) q)(O:Hold w (.slice t.sa t.sl t.sc) z1)(G:Hold w (.slice t.pa t.pl t.pc) z2)(U:Hold w v zs)(D:zs.length≤4194304):
  Calls Tryz.prog 50 #[t.val,v] w fun e w'=> ∃u vs,e= .returned (.tuple #[u,.int .i64 t.validE])∧RowsV w.heap.size w' u vs (t.rowsZ q z1 z2 zs)∧Below w.heap.size w w':=by
 unfold TreeV.rowsZ;by_cases h:t.validE=0
 ·refine(qgf t q z1 z2 zs v w ⟨h,I,r,O,G⟩ U D).mono ?_;rintro e w' ⟨u,vs,rfl,J,o⟩
  exact⟨u,vs,by rw[h],by rw[if_pos h];exact J,o⟩
 ·refine(qeS t v w h).mono ?_;rintro e w' ⟨rfl,o⟩
  exact⟨_,[],rfl,by rw[if_neg h];exact RowsV.nil _ _,o⟩
def DigV (B:Nat)(W:World)(v:Value)(L:List (List Int))(ds:List Value):Prop:=
 W.ownsRow B 24 1 v L.length ds∧ ∀j,j<L.length→OwnB B W (ds.getD j undef) (qK L j)
def dgV (DS:List (List Value))(a i:Nat):Value:=(DS.getD a []).getD i undef
theorem DigV.len {B:Nat}{W:World}{v:Value}{L:List (List Int)}{ds:List Value}(h:DigV B W v L ds):ds.length=L.length:=by have:=h.1.1;simpa using this
theorem DigV.keep {B b:Nat}{W W':World}{v:Value}{L:List (List Int)}{ds:List Value}(h:DigV B W v L ds)(k:KB b W W')(o: ∀g,v.ownBlock=some g→W'.heap[g]? =W.heap[g]?):DigV B W' v L ds:=
 ⟨qF h.1 o,fun j q=>(h.2 j q).kb k⟩
theorem zm {B:Nat}{W:World}{v:Value}{z:List Int}(h:OwnB B W v z): ∀g,v.ownBlock=some g→B≤g∧g<W.heap.size:=fun g o=>by
 exact qeg h.2 g o
structure ListsV (B:Nat)(W:World)(xs:List Value)(LL:List (List (List Int)))(DS:List (List Value)):Prop where
 lx:xs.length=LL.length
 ld:DS.length=LL.length
 each: ∀a,a<LL.length→DigV B W (xs.getD a undef) (LL.getD a []) (DS.getD a [])
 ax: ∀a b g,a≠b→(xs.getD a undef).ownBlock=some g→(xs.getD b undef).ownBlock≠some g
 ad: ∀a i b j g,(a≠b∨i≠j)→(dgV DS a i).ownBlock=some g→(dgV DS b j).ownBlock≠some g
namespace ListsV
variable {B:Nat} {W W':World} {xs:List Value} {LL:List (List (List Int))} {DS:List (List Value)}
theorem xlt (h:ListsV B W xs LL DS): ∀a g,(xs.getD a undef).ownBlock=some g→B≤g∧g<W.heap.size:=fun a g o=>by
 by_cases q:a<LL.length
 ·exact⟨Qy (h.each a q).1 g o,qm (h.each a q).1 g o⟩
 ·rw[Lg,List.getElem?_eq_none (by have:=h.lx;omega)]at o
  cases o
theorem dlt (h:ListsV B W xs LL DS): ∀a i g,(dgV DS a i).ownBlock=some g→B≤g∧g<W.heap.size:=fun a i g o=>by
 unfold dgV at o;by_cases q:a<LL.length
 ·by_cases r:i<(LL.getD a []).length
  ·exact zm ((h.each a q).2 i r) g o
  ·rw[Lg (l:=DS.getD a []),List.getElem?_eq_none (by rw[(h.each a q).len];omega)]at o
   cases o
 ·rw[Lg (l:=DS),List.getElem?_eq_none (by have:=h.ld;omega)]at o;simp at o
  cases o
theorem keep {b:Nat}(h:ListsV B W xs LL DS)(k:KB b W W')(q: ∀a g,(xs.getD a undef).ownBlock=some g→W'.heap[g]? =W.heap[g]?):ListsV B W' xs LL DS:=
 ⟨h.lx,h.ld,fun a o=>(h.each a o).keep k (q a),h.ax,h.ad⟩
theorem below (h:ListsV B W xs LL DS)(o:Below W.heap.size W W'):ListsV B W' xs LL DS:=
 h.keep (KB.of_below o (Nat.zero_le _)) fun a g q=>o.block g (h.xlt a g q).2
theorem off {g:Nat}{c:Array Value}{T:TypeId}{fr:Nat×Nat}(h:ListsV B W xs LL DS)(r:W.heap[g]? =some (.cells c T fr))(I:T≠24)(D:T≠5)(q:But g W W'):ListsV B W' xs LL DS:=
 h.keep (KB.of_but q (Nat.zero_le _) (Nat.zero_le _) r D) fun a k o=>by
  refine q.block k (h.xlt a k o).2 ?_;by_cases G:a<LL.length
  ·exact QQ (h.each a G).1 r I k o
  ·rw[Lg,List.getElem?_eq_none (by have:=h.lx;omega)]at o
   cases o
theorem xoff {g:Nat}{c:Array Value}{T:TypeId}{fr:Nat×Nat}(h:ListsV B W xs LL DS)(D:W.heap[g]? =some (.cells c T fr))(r:T≠24): ∀a k,(xs.getD a undef).ownBlock=some k→k≠g:=fun a k o=>by
 by_cases q:a<LL.length
 ·exact QQ (h.each a q).1 D r k o
 ·rw[Lg,List.getElem?_eq_none (by have:=h.lx;omega)]at o
  cases o
theorem nil (B:Nat)(W:World):ListsV B W [] [] []:=⟨rfl,rfl,(fun a q=>by simp at q),(fun a b g _ o=>by rw[show([]:List Value).getD a undef=undef from rfl]at o;cases o),(fun a i b j g _ o=>by rw[show dgV [] a i=undef from rfl]at o;cases o)⟩
theorem le {b:Nat}(h:ListsV B W xs LL DS)(q:b≤B):ListsV b W xs LL DS:=⟨h.lx,h.ld,fun a o=>⟨ownsRow_le (h.each a o).1 q,fun j r=>((h.each a o).2 j r).le q⟩,h.ax,h.ad⟩
theorem more (h:ListsV B W xs LL DS):ListsV B W (xs++[Value.slice none 0 0]) (LL++[[]]) (DS++[[]]):=by
 have J: ∀a,((xs++[Value.slice none 0 0]).getD a undef).ownBlock=(xs.getD a undef).ownBlock:=fun a=>by
  rw[qI];split
  ·rfl
  ·rw[Lg,List.getElem?_eq_none (by omega)];split<;>rfl
 have D: ∀a,(DS++[[]]).getD a []=DS.getD a []:=fun a=>by
  rw[qI];split
  ·rfl
  ·rw[Lg,List.getElem?_eq_none (by omega)];split<;>rfl
 have G: ∀a i,dgV (DS++[[]]) a i=dgV DS a i:=fun a i=>by unfold dgV;rw[D]
 refine⟨by simp[h.lx],by simp[h.ld],fun a O=>?_,fun a b g q r=>?_,fun a i b j g q r=>?_⟩
 ·rw[D,qI,qI];by_cases o:a<LL.length
  ·rw[if_pos o,if_pos (by rw[h.lx];exact o)];exact h.each a o
  ·have I:a=LL.length:=by simp at O;omega
   subst I;rw[if_neg o,if_pos rfl,if_neg (by rw[h.lx];exact o),if_pos h.lx.symm,Lg,List.getElem?_eq_none (by have:=h.ld;omega)];exact⟨Wo _ _ _ _,fun j U=>by simp at U⟩
 ·rw[J]at r⊢;exact h.ax a b g q r
 ·rw[G]at r⊢;exact h.ad a i b j g q r
theorem put {a:Nat}{v' x:Value}{z:List Int}(h:ListsV B W xs LL DS)(Y:a<LL.length)(hn:W'.ownsRow B 24 1 v' ((LL.getD a []).length+1) (DS.getD a []++[x]))(hz:OwnB B W x z)(hk:KB B W W')(ab:Spare (fun k=>(xs.getD a undef).ownBlock≠some k) W W')
  (r:v'.ownBlock=(xs.getD a undef).ownBlock∨ ∀g,v'.ownBlock=some g→W.heap.size≤g) (V: ∀g,x.ownBlock=some g→ ∀b j,(dgV DS b j).ownBlock≠some g):ListsV B W' (xs.set a v') (LL.set a (LL.getD a []++[z])) (DS.set a (DS.getD a []++[x])):=by
 have hl:=(h.each a Y).len;have aa:a<xs.length:=by rw[h.lx];exact Y
 have Z:a<DS.length:=by rw[h.ld];exact Y
 have ac: ∀b i,dgV (DS.set a (DS.getD a []++[x])) b i=if a=b∧i=(DS.getD a []).length then x else dgV DS b i:=fun b i=>by
  unfold dgV;rw[QD _ _ _ _ _ Z];by_cases o:a=b
  ·subst o;rw[if_pos rfl,qI];by_cases D:i<(DS.getD a []).length
   ·rw[if_pos D,if_neg (fun e=>by omega)]
   ·rw[if_neg D];by_cases J:i=(DS.getD a []).length
    ·rw[if_pos J,if_pos ⟨rfl,J⟩]
    ·rw[if_neg J,if_neg (fun e=>J e.2),Lg (l:=DS.getD a []),List.getElem?_eq_none (by omega)];rfl
  ·rw[if_neg o,if_neg (fun e=>o e.1)]
 refine⟨by simp[h.lx],by simp[h.ld],fun b hb=>?_,fun b c g I G=>?_,fun b i c j g I G=>?_⟩
 ·rw[List.length_set]at hb;rw[QD _ _ _ _ _ aa,QD _ _ _ _ _ Y,QD _ _ _ _ _ Z];by_cases o:a=b
  ·subst o;rw[if_pos rfl,if_pos rfl,if_pos rfl];refine⟨by rw[List.length_append,List.length_singleton];exact hn,fun j hj=>?_⟩;rw[List.length_append,List.length_singleton]at hj;unfold qK;rw[qI,qI,hl];by_cases D:j<(LL.getD a []).length
   ·rw[if_pos D,if_pos D];exact((h.each a Y).2 j D).kb hk
   ·rw[if_neg D,if_neg D,if_pos (by omega),if_pos (by omega)];exact hz.kb hk
  ·rw[if_neg o,if_neg o,if_neg o];refine(h.each b hb).keep hk fun g G=>ab.block g (h.xlt b g G).2 fun e=>h.ax a b g o e G
 ·have key: ∀e g,((xs.set a v').getD e undef).ownBlock=some g→(a=e∧v'.ownBlock=some g)∨(a≠e∧(xs.getD e undef).ownBlock=some g):=fun e g U=>by
   rw[QD _ _ _ _ _ aa]at U;by_cases o:a=e
   ·rw[if_pos o]at U;exact .inl ⟨o,U⟩
   ·rw[if_neg o]at U;exact .inr ⟨o,U⟩
  intro hc;rcases key b g G with⟨rfl,X⟩|⟨X,k2⟩<;>rcases key c g hc with⟨rfl,O⟩|⟨O,k4⟩
  ·exact I rfl
  ·rcases r with r|r
   ·rw[r]at X;exact h.ax a c g O X k4
   ·have:=r g X;have:=(h.xlt c g k4).2;omega
  ·rcases r with r|r
   ·rw[r]at O;exact h.ax a b g X O k2
   ·have:=r g O;have:=(h.xlt b g k2).2;omega
  ·exact h.ax b c g I k2 k4
 ·rw[ac]at G⊢;by_cases D:a=b∧i=(DS.getD a []).length
  ·rw[if_pos D]at G;rw[if_neg (fun e=>by rcases I with q|q;exact q (D.1.symm.trans e.1);exact q (D.2.trans e.2.symm))];exact V g G c j
  ·rw[if_neg D]at G;by_cases J:a=c∧j=(DS.getD a []).length
   ·rw[if_pos J];exact fun e=>V g e b i G
   ·rw[if_neg J];exact h.ad b i c j g I G
end ListsV
theorem RowsV.formP {B:Nat}{w:World}{v:Value}{vs:List Value}{LL:List (List (List Int))}(h:RowsV B w v vs LL): ∃a c,v= .slice a LL.length c∧(LL.length:Int)≤9223372036854775807:=by
 rcases h.1.2 with⟨rfl,e⟩|⟨g,r,q,rfl, -, -,D,o, -⟩
 ·exact⟨none,0,by rw[e],by omega⟩
 ·exact⟨_,_,rfl,by unfold maxLen at o;omega⟩
theorem RowsV.getP {B i:Nat}{w:World}{q:Value}{vs:List Value}{LL:List (List (List Int))}(h:RowsV B w q vs LL)(G:i<LL.length): ∃g o,q= .slice (some ⟨g,0,none⟩) LL.length o∧g<w.heap.size∧w.cell? ⟨g,i,none⟩=some (vs.getD i undef):=by
 obtain⟨g,o,e, -,r,D⟩:=z7 h.1 (by omega);refine⟨g,o,e,r,D i _ ?_⟩;have:=h.len
 rw[Lg,List.getElem?_eq_getElem (by omega)];rfl
theorem Ju {ops:Array Oper}{G:List Oper}{o:Oper}{a:Act}{Q:Exit→Act→World→Prop}{W:World}(O:o.guard=none)(s x:Operand)
  (ho:o.op= .call { callee:= .builtin .append,args:= #[s,x],argTypes:= #[67,67] }) (B:Nat) (v:Value) (n:Nat) (ds:List Value) (u:Value) (hs:a.eval s=v) (r:W.ownsRow B 24 1 v n ds) (hu:u.oneCell'=true)
  (hx:a.eval x= .slice (some ⟨W.heap.size,0,none⟩) 1 1) (ab:n≤8388608) (hB:B≤W.heap.size)
  (h: ∀v' w',w'.ownsRow B 24 1 v' (n+1) (ds++[u])→KB B W w'→Spare (fun k=>v.ownBlock≠some k) W w'→(v'.ownBlock=v.ownBlock∨ ∀g,v'.ownBlock=some g→W.heap.size≤g)→wpList Tryz.prog ops Q G (a.put o.dst v') w'):wpList Tryz.prog ops Q (o::G) a (W.alloc (.cells #[u] 24)):=by
 obtain⟨ib,Y,X,aa,Z⟩:=info_parts yH;refine wpList_append_own_at _ O s x _ ho B 24 ib (.slice none 0 0) 1 24 Tryz.underlying67 Y X aa Z rfl (by decide) v n ds hs (r.alloc _) ⟨W.heap.size,0,none⟩ 1 1 [u] hx rfl (cell_one_new W u _) (by simpa using hu) (by unfold maxLen;omega) (by omega) (by simp;omega) fun v' w' h2 h3 _ I=>?_
 have q:Spare (fun k=>v.ownBlock≠some k) W w':=(Spare.of_below _ (Br.alloc Nl _)).trans (Spare.of_grown h3) (fun _ _ h=>h);have U:KB B W w':=⟨q.os,q.tape,q.output,q.size,fun k hk=>q.block k (by omega) (fun J=>by have:=Qy r k J;omega),fun k c D=>by
   rw[q.block k (Ai D).1 (fun J=>?_)]
   ·exact D
   ·obtain⟨c2,h8⟩:=Qh r k J;rw[h8]at D;simp only[Option.some.injEq,Obj.cells.injEq]at D;exact absurd D.2.1 (by decide)⟩
 refine h v' w' h2 U q ?_;rcases I with I|I
 ·exact .inl I
 ·exact .inr fun g V=>by rw[I]at V;simp only[World.alloc,Array.size_push,Option.some.injEq]at V;omega
end Go.Proofs.YthjoojnlnlmljaaGreat
