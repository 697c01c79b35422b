/- The rows above the leaves, by the reference. No condition. -/
import Derived.Test.YthjoojnlnlmljaaGreatG33
import Derived.Test.YthjoojnlnlmljaaGreatG36
import Derived.Test.YthjoojnlnlmljaaGreatG05
import Derived.Test.YthjoojnlnlmljaaGreatG38
import Derived.Test.YthjoojnlnlmljaaGreatG32
import Derived.Maps.AppendAt
import Derived.Test.YthjoojnlnlmljaaGreatG31
import Derived.Laws.CopyOwn
import Derived.ArgAppend
import Derived.Test.YthjoojnlnlmljaaGreatG35
import Derived.Test.YthjoojnlnlmljaaGreatG04
import Derived.Deep.Slices
import Derived.Test.YthjoojnlnlmljaaGreatG34
import Derived.BigQuiet
import Derived.Deep.QuietTactic
import Derived.Deep.AppendLies
import Derived.Deep.RegionHeld3
import Derived.Laws.AppendOwnNone
import Derived.Deep.DeepCutAuto
set_option linter.all false
set_option maxRecDepth 100000
set_option maxHeartbeats 8000000
namespace Go.Proofs.YthjoojnlnlmljaaGreat
open Go.ChangeShapes Go.WideShapes Go.ChangeAt Go.RowKit Go.Joins Go.Shelf Go.Maps
open Go.Lib (hid)
attribute [local go_sem] Oper.semAt_some
def TreeV.lvlC (t:TreeV)(kz z1 z2:List Int)(L0:List (List Int))(r:Nat):List CallS:=t.rowC kz z1 z2 (r+1) (t.rootZ (r+1) (t.lvlZ kz z1 z2 L0 r).length) (t.upZ (r+1) (t.lvlZ kz z1 z2 L0 r)) (t.upZ (r+1) (t.lvlZ kz z1 z2 L0 r)).length
def TreeV.lvlsC (t:TreeV)(kz z1 z2:List Int)(L0:List (List Int))(m:Nat):List (List CallS):=(List.range m).map (t.lvlC kz z1 z2 L0)
theorem z9 (t:TreeV)(kz z1 z2:List Int)(L0:List (List Int))(m:Nat):t.lvlsC kz z1 z2 L0 (m+1)=t.lvlsC kz z1 z2 L0 m++[t.lvlC kz z1 z2 L0 m]:=by simp[TreeV.lvlsC,List.range_succ]
theorem TreeV.lvlsC_length (t:TreeV)(kz z1 z2:List Int)(L0:List (List Int))(m:Nat):(t.lvlsC kz z1 z2 L0 m).length=m:=by simp[TreeV.lvlsC]
def Z5 (L:List (List Int))(a m:Nat):List Int:=((L.drop a).take (m - a)).flatten
theorem qbB {L:List (List Int)}{a m:Nat}(q:a≤m)(o:m<L.length):Z5 L a (m+1)=Z5 L a m++qQ L m:=by
 unfold Z5;rw[show m+1 - a=(m - a)+1 by omega,JU (by simp;omega),qgE,show a+(m - a)=m by omega]
theorem qfz (L:List (List Int))(a:Nat):Z5 L a a=[]:=by simp[Z5]
theorem qgT (L:List (List Int))(a m:Nat):(Z5 L a m).length≤L.flatten.length:=zE ((List.take_sublist _ _).trans (List.drop_sublist _ _))
theorem ListH.bounds {w:World}{v:Value}{L:List (List Int)}(h:ListH w v L): ∀l∈L,∀z∈l,0≤z∧z≤255:=by
 obtain⟨a,O,rfl, -, -,G⟩:=h;intro l q z J;rcases G with rfl|⟨g,off, -, -,I⟩
 ·cases q
 ·obtain⟨i,D,rfl⟩:=List.mem_iff_getElem.1 q;obtain⟨x, -,o⟩:=I i D;have e:qQ L i=L[i]:=by unfold qQ;simp[Lg,D]
  rw[e]at o;exact o.1 z J
theorem qdo {L:List (List Int)}{a m:Nat}(h: ∀l∈L,∀z∈l,0≤z∧z≤255): ∀z∈Z5 L a m,0≤z∧z≤255:=by
 intro z q;obtain⟨l,D,o⟩:=List.mem_flatten.1 q;exact h l (List.mem_of_mem_drop (List.mem_of_mem_take D)) z o
theorem qbI (t:TreeV)(kz z1 z2:List Int)(total:Nat)(L0:List (List Int))(v:Value)(w0 w:World)(h:TreeOk t kz z1 z2 w0)(he:t.err total=0)(hv:ListH w v L0)(hw:Below w0.heap.size w0 w)(h0:L0.length=lvs total t.ln)(h1: ∀z∈L0,z.length≤64)(hn:L0.length≤8388608)(ht:(total:Int)≤18446744073709551615):
  Calls Tryz.prog 65 #[t.val,.int .u64 total,v] w fun e w'=> ∃cv u,e= .returned (.tuple #[cv,u])∧LevO w0 w.heap.size w' cv (t.lvlsC kz z1 z2 L0 ((t.rowsOf total).length - 1))∧OwnB w.heap.size w' u (qQ (t.lvlZ kz z1 z2 L0 ((t.rowsOf total).length - 1)) 0)∧Below w.heap.size w w':=by
 obtain⟨b0,aj⟩:=Ex w.heap.size;have di:w0.heap.size≤b0:=by have:=hw.size;omega
 have HW:=hid hw;have HT:=hid h;have HV:=hid hv;have HE:=hid he;obtain⟨ib,dd,dl,dr,c7⟩:=info_parts YG;obtain⟨ic,dp,cG,cC,cV⟩:=info_parts J5;obtain⟨il,cS,cr,da,cO⟩:=info_parts Ja;obtain⟨i8,dn,cj,ch,ck⟩:=info_parts QD;have bK:L0≠[]:=List.length_pos_iff.1 (by rw[h0];unfold lvs;omega);have HF:=hid (QM h.v kz z1 z2 bK h1);have aA:=hid (fun W:World=>qbd t h.l total ht he W);have hR:=qM he;have dq:t.pn≤255:=by have:=(qq h.v).2.2.2.2.2.2.2.1;unfold TreeV.pn;omega
 have cc:=hR.len;have bp:=hR.most;have b4:=hid (Q4 he kz z1 z2 h0 h1);have bq:=hid (fun(r:Nat) (hr:r+1<(t.rowsOf total).length) (i:Nat) (hi:i<(t.upZ (r+1) (t.lvlZ kz z1 z2 L0 r)).length)=>qcq he kz z1 z2 h0 h1 hr rfl rfl hi);have cD:=hid (fun(W:World) (row:Nat) (i:Nat)=>ZS t h.l total ht (row:Int) i W);rw[show Qt t.fn t.pn (lvs total t.ln)=t.rowsOf total from rfl]at aA;have cU:(t.rowsOf total).length≤255:=by omega
 obtain⟨va,vc,rfl,du,dF, -⟩:=id hv;have bu:Below b0 w (w.alloc (.cells #[.int .i64 t.k,.int .i64 t.d,.int .i64 t.f,.int .i64 t.p,.int .u32 t.l,.int .i64 t.i,.slice t.ka t.kl t.kc,.slice t.sa t.sl t.sc,.slice t.pa t.pl t.pc] 26)):=by rw[←aj];exact Br.alloc Nl _
 have an:=Wn w (.cells #[.int .i64 t.k,.int .i64 t.d,.int .i64 t.f,.int .i64 t.p,.int .u32 t.l,.int .i64 t.i,.slice t.ka t.kl t.kc,.slice t.sa t.sl t.sc,.slice t.pa t.pl t.pc] 26);rw[aj]at an;obtain⟨RS,bC⟩:=Ex (t.rowsOf total);rw[bC]at aA cc cU b4 bq⊢;clear h hv hw he bK h0 h1 hR bp dq bC;unfold TreeV.val at*;go_enter Tryz.func65,Tryz.ntmps65
 go_upto_region 1 with(fail)
 generalize w.alloc (.cells #[.int .i64 t.k,.int .i64 t.d,.int .i64 t.f,.int .i64 t.p,.int .u32 t.l,.int .i64 t.i,.slice t.ka t.kl t.kc,.slice t.sa t.sl t.sc,.slice t.pa t.pl t.pc] 26)=wA at*;go_wp2_with ((with_reducible show wpList _ _ _ (Oper.mk _ (Op.load 26 _) _ _ _ _::_) _ _);refine wpList_load_row rfl 26 _ rfl b0 rfl _ _ _ _ an Tryz.underlying26 rfl (by kernel_rfl) ?_)
 refine(aA.out wA).mono ?_;rintro e wR ⟨rv,rfl,aD,ay⟩;have db:b0<wA.heap.size:=(Ai an).1;have cP:=hid (qg an ay);have aU:=hid (bu.trans (ay.mono (show b0≤wA.heap.size by omega)));have c6:=ay.size;obtain⟨bR,cB⟩:=Ex wR.heap.size;have dE:b0<bR:=by omega
 have c9:=hid aD;obtain⟨ra,rn,rc,rfl⟩:=qu aD;have bn: ∃gR,ra=some ⟨gR,0,none⟩∧rn=RS.length∧gR<bR∧ ∀k,k<RS.length→wR.cell? ⟨gR,k,none⟩=some (.int .u64 (nth RS k)):=by
  obtain⟨gR,ea,e, -, -,h2,h3⟩:=zU aD (by omega);simp only[Value.slice.injEq]at e;obtain⟨rfl,rfl, -⟩:=e;exact⟨gR,rfl,rfl,by omega,h3⟩
 obtain⟨gR,rfl,rfl,df,bP⟩:=bn;have cY:=hid bP;have cK:=hid (HV.out.below (aj▸aU.out));clear ay an bu aA c6 aD bP c9 HV db;go_wp2_with fail
 go_loopw [10,11,12] (fun o x i wr=> ∃r q:Nat,i= .int .i64 (q:Nat)∧q=r+1∧q≤RS.length∧LevO w0 bR wr o (t.lvlsC kz z1 z2 L0 r)∧ListH wr x (t.lvlZ kz z1 z2 L0 r)∧(1≤r→ListO bR wr x (t.lvlZ kz z1 z2 L0 r))∧Below bR wR wr) (fun _ _ i _=>256 - (intOf i).toNat)
 case atStart=>exact⟨0,1,rfl,rfl,by omega,LevO.nil _ _ _,cK.out,fun h=>by omega,Below.refl _ _⟩
 case round=>
  obtain⟨r,q,rfl,hq,dW,aE,hx,ap,G⟩:=hrel;have dx:(RS.length:Int)≤255:=by omega
  by_cases b6:q<RS.length
  case pos=>
   rename World=>wq
   have dy:(q:Int)<RS.length:=by omega
   obtain⟨f1,f2,f3⟩:=HF.out r;have ar:=yZ f3;have aQ:=YO HT.out.v q f1;have bg:nth RS q=(t.upZ q (t.lvlZ kz z1 z2 L0 r)).length:=by
    rw[←b4.out q b6,hq];exact qK ..
   have c5:=hid (fun(i:Nat) (hi:i<(t.upZ q (t.lvlZ kz z1 z2 L0 r)).length)=>by have:=bq.out r (by omega) i (by rw[←hq];exact hi);rw[←hq]at this;exact this);have dR:=hid (fun i=>zk t q (t.lvlZ kz z1 z2 L0 r) i);have cI:=hid (show t.lvlZ kz z1 z2 L0 q=t.rowZ kz z1 z2 q (t.rootZ q (t.lvlZ kz z1 z2 L0 r).length) (t.upZ q (t.lvlZ kz z1 z2 L0 r)) (t.upZ q (t.lvlZ kz z1 z2 L0 r)).length by rw[hq];rfl);have cX:=hid (show t.lvlC kz z1 z2 L0 r=t.rowC kz z1 z2 q (t.rootZ q (t.lvlZ kz z1 z2 L0 r).length) (t.upZ q (t.lvlZ kz z1 z2 L0 r)) (t.upZ q (t.lvlZ kz z1 z2 L0 r)).length by rw[hq];rfl);have dU:(t.upZ q (t.lvlZ kz z1 z2 L0 r)).length≤L0.length:=Nat.le_trans aQ.2 f2;have dN:=aQ.1;have bT:=hid (show ∀a m,(Z5 (t.lvlZ kz z1 z2 L0 r) a m).length≤536870912 from fun a m=>by have:=qgT (t.lvlZ kz z1 z2 L0 r) a m;omega);have dw:(t.lvlZ kz z1 z2 L0 r).length≤8388608:=by omega
   generalize t.upZ q (t.lvlZ kz z1 z2 L0 r)=I at*;generalize t.rootZ q (t.lvlZ kz z1 z2 L0 r).length=Z at*;generalize t.lvlZ kz z1 z2 L0 r=Lb at*;obtain⟨xa,xc,rfl,dK,dJ, -⟩:=id hx;have cW:=hid hx;have bl:=hid aE;have HB:=hid G;have HQ:=hid hq;have dH:=hid bg;have bk:wq.cell? ⟨gR,q,none⟩=some (.int .u64 (nth RS q)):=(G.cell (p:=⟨gR,q,none⟩) df).trans (cY.out q b6);rw[bg]at bk;obtain⟨O,aT⟩:=Ex wq.heap.size;have au:bR≤O:=by have:=G.size;omega
   have cE:=hid (qg cP.out (cB▸G));have cl:=hid (show Below w0.heap.size w0 wq from HW.out.trans ((aU.out.trans (G.mono (by omega))).mono di));clear aE hx ap G hq bg aQ f1 f2 f3 ar;go_wp2_with fail
   go_loopw [13,14,15] (fun s u i wr=> ∃j:Nat,i= .int .u64 (j:Nat)∧j≤I.length∧CallsO w0 O wr s (t.rowC kz z1 z2 q Z I j)∧ListO O wr u (t.rowZ kz z1 z2 q Z I j)∧Below O wq wr) (fun _ _ i _=>I.length - (intOf i).toNat)
   case atStart=>exact⟨0,rfl,Nat.zero_le _,CallsO.nil _ _ _,ListO.nil _ _,Below.refl _ _⟩
   case round=>
    obtain⟨j,rfl,hj,ac,ho,G⟩:=hrel;by_cases cT:j<I.length
    case pos=>
     have dC:(j:Int)<I.length:=by omega
     have d6:(I.length:Int)≤16777216:=by omega
     have cf:wr.cell? ⟨gR,q,none⟩=some (.int .u64 (I.length:Nat)):=(G.cell (p:=⟨gR,q,none⟩) (show gR<O by omega)).trans bk;obtain⟨aF,a,b,be,cy,cb,b3⟩:=c5.out j cT;have ah:=hid (fun W:World=>cD.out W q j);have ca:t.spotR total (q:Int) j=⟨q,j,a,b,decide (j+1=I.length),Z⟩:=by unfold TreeV.spotR;rw[if_pos ⟨HE.out,aF⟩];exact be
     have bO:t.spotE total (q:Int) j=0:=by unfold TreeV.spotE;rw[if_neg (by simp[HE.out]),if_pos aF]
     rw[ca,bO]at ah;unfold SpotV.val at ah;simp only at ah
     have bL:=hid aF;have ax:=hid be;have bQ:=hid (show qQ I j=Z5 Lb a b from b3);obtain⟨ql,bm⟩: ∃q:Bool,decide (j+1=I.length)=q:=⟨_,rfl⟩;rw[bm]at ah ax;have bH:=hid bm;have aN:wr.heap[b0]? =some (.cells #[.int .i64 t.k,.int .i64 t.d,.int .i64 t.f,.int .i64 t.p,.int .u32 t.l,.int .i64 t.i,.slice t.ka t.kl t.kc,.slice t.sa t.sl t.sc,.slice t.pa t.pl t.pc] 26 (0,0)):=qg cE.out (aT▸G);have bZ:=hid (show Below w0.heap.size w0 wr from cl.out.trans (G.mono (by omega)));have aw:O≤wr.heap.size:=by have:=G.size;omega
     have dz:IntKind.u64.wrap ((j:Int)+1)=((j+1:Nat):Int):=u64_wrap_id _ (by omega) (by omega);have aB:=hid ac;have HO:=hid ho;have br:=hid G;have cn:gR<wr.heap.size:=by omega
     clear aF be b3 bm ca bO ac ho G;go_wp2_with ((with_reducible show wpList _ _ _ (Oper.mk _ (Op.load 26 _) _ _ _ _::_) _ _);refine wpList_load_row rfl 26 _ rfl b0 rfl _ _ _ _ aN Tryz.underlying26 rfl (by kernel_rfl) ?_)
     refine(ah.out wr).mono ?_;rintro e w4 ⟨rfl,az⟩;have b8:=hid az;have de:=az.size;have b7:=qg aN az;clear az;go_upto_region 13 with(first|((with_reducible show wpList _ _ _ (Oper.mk none (Op.store 96 _ _) _ _ _ _::_) _ _);refine wpList_store_row rfl 96 _ _ rfl w4.heap.size #[.int .i64 (q:Nat),.int .u64 (j:Nat),.int .u64 (a:Nat),.int .u64 (b:Nat),.bool ql,.bool Z] rfl rfl 96 _ (Wn _ _) (by kernel_rfl) rfl (by simp[Value.oneCell']) ?_))
     refine qm ?_;intro V hV;obtain⟨bs,aG⟩:=Ex w4.heap.size;have aC:V.heap[bs]? =some (.cells #[.int .i64 (q:Nat),.int .u64 (j:Nat),.int .u64 (a:Nat),.int .u64 (b:Nat),.bool ql,.bool Z] 96 (0,0)):=by rw[hV,←aG];exact setRow_heap _ _ _ _ _ _ (Wn _ _)
     have aZ:Below bs w4 V:=by rw[hV,←aG];exact below_setRow (Br.alloc Nl _) Nl _
     rw[aG];have b5:V.heap[b0]? =some (.cells #[.int .i64 t.k,.int .i64 t.d,.int .i64 t.f,.int .i64 t.p,.int .u32 t.l,.int .i64 t.i,.slice t.ka t.kl t.kc,.slice t.sa t.sl t.sc,.slice t.pa t.pl t.pc] 26 (0,0)):=(aZ.block b0 (by omega)).trans b7;have af:Below wr.heap.size wr V:=b8.out.trans (aZ.mono (by omega));have aL:=hid af;have cp:=hid (bZ.out.trans (af.mono (show w0.heap.size≤wr.heap.size by omega)));have bI:bs<V.heap.size:=(Ai aC).1;have dc:wr.heap.size≤V.heap.size:=af.size;have dh:=hid aC;have dt:=hid b5;obtain⟨bV,bd⟩:=Ex V.heap.size;have d2:V.cell? ⟨bs,2,none⟩=some (.int .u64 (a:Nat)):=qd aC 2;have aa:=hid bd;have bD:=hid ((cW.out.below (aT▸br.out)).below af);clear af aZ hV b8 b7 aN de aG aC b5 bd;go_wp2_with fail
     go_loopw [18,19] (fun d k wr=> ∃m:Nat,k= .int .u64 (m:Nat)∧a≤m∧m≤b∧wr.ownsRow bV 5 1 d (Z5 Lb a m).length ((Z5 Lb a m).map qt)∧Below bV V wr) (fun _ k _=>b - (intOf k).toNat)
     case atStart=>exact⟨a,rfl,Nat.le_refl _,cy,by rw[qfz];exact Wo _ _ _ _,Below.refl _ _⟩
     case round=>
      obtain⟨m,rfl,bw,dT,am,G⟩:=hrel;have e3:wr.cell? ⟨bs,3,none⟩=some (.int .u64 (b:Nat)):=(G.cell (p:=⟨bs,3,none⟩) (show bs<bV by rw[←aa.out];exact bI)).trans (qd dh.out 3);have dD:bV≤wr.heap.size:=by have:=G.size;rw[aa.out]at this;exact this
      have dI:bs<wr.heap.size:=by rw[aa.out]at bI;omega
      by_cases d5:m<b
      case pos=>
       have dA:(m:Int)<b:=by omega
       obtain⟨d0,d3,e, -, -,h3⟩:=bD.out;obtain⟨g,off,rfl,h4,h5⟩:=h3.resolve_left (fun e=>by rw[e]at cb;simp at cb;omega);simp only[Value.slice.injEq]at e;obtain⟨rfl, -,rfl⟩:=e;obtain⟨xx,bA,aY⟩:=h5 m (by omega);obtain⟨xb,xd,rfl, -, -⟩:=aY.slice;have c0:wr.cell? ⟨g,off+m,none⟩=some (.slice xb (qQ Lb m).length xd):=(G.cell (p:=⟨g,off+m,none⟩) (show g<bV by rw[←aa.out];exact h4)).trans bA;have dP:g<wr.heap.size:=by rw[aa.out]at h4;omega
       have HX:=hid (aY.below (aa.out.symm▸G)).src;have cA:=hid am;have c4:=hid G;have ar:=bT.out a (m+1);rw[qbB bw (by omega),List.length_append]at ar;have b9:=hid ar;have dX:(m:Int)<Lb.length:=by omega
       have dZ:IntKind.u64.wrap ((m:Int)+1)=((m+1:Nat):Int):=u64_wrap_id _ (by omega) (by omega);clear bA aY h5 h4 h3 am G ar;go_wp2_with (at_builtin;refine Qn rfl _ _ _ rfl V bV aa.out.symm c4.out 5 i8 (.int .u8 0) 1 Tryz.underlying24 dn cj ch ck rfl _ _ _ rfl cA.out _ _ _ rfl HX.out (by have:=b9.out;unfold maxLen;omega) (by have:=b9.out;omega) ?_;intro v' w' J cz)
       refine⟨⟨m+1,rfl,by omega,by omega,?_,cz⟩,by simp[intOf];omega⟩;rw[qbB bw (by omega),List.length_append,List.map_append];exact J
      obtain rfl:m=b:=by omega
      rename World=>wd
      have cx:wr.heap.size≤wd.heap.size:=by have:=G.size;omega
      have c8:wd.heap[b0]? =some (.cells #[.int .i64 t.k,.int .i64 t.d,.int .i64 t.f,.int .i64 t.p,.int .u32 t.l,.int .i64 t.i,.slice t.ka t.kl t.kc,.slice t.sa t.sl t.sc,.slice t.pa t.pl t.pc] 26 (0,0)):=qg dt.out (aa.out.symm▸G);have aV:=hid (aL.out.trans (G.mono (show wr.heap.size≤bV by rw[←aa.out];exact dc)));have al:Below w0.heap.size w0 wd:=bZ.out.trans (aV.out.mono (show w0.heap.size≤wr.heap.size by omega));have aM:=hid al;have bE:OwnB bV wd u18 (qQ I j):=by
       rw[bQ.out];exact⟨qdo bD.out.bounds,Y6 am⟩
      obtain⟨ad,nd,kd,rfl⟩:=qu am;have cF:=hid bE;have bb:=hid (ZR t total HE.out HT.out.l ht z1 z2 q j (by omega) (by omega) bL.out _ ax.out ad nd kd wd (HT.out.s.below al) (HT.out.p.below al));unfold TreeV.val at bb;have bX:(qQ I j).length≤536870912:=by rw[bQ.out];exact bT.out a _
      have ci:=hid bX;clear am G al bE bX;go_wp2_with ((with_reducible show wpList _ _ _ (Oper.mk _ (Op.load 26 _) _ _ _ _::_) _ _);refine wpList_load_row rfl 26 _ rfl b0 rfl _ _ _ _ c8 Tryz.underlying26 rfl (by kernel_rfl) ?_)
      refine bb.out.mono ?_;rintro e w5 ⟨bv,rfl,aH,bi⟩;obtain⟨a5,n5,k5,rfl⟩:=qu aH;obtain⟨cQ,a6,n6,k6,e6⟩:=qix HT.out q (aM.out.trans (bi.mono (show w0.heap.size≤wd.heap.size by omega))) O;rw[e6]at cQ⊢;have cd:=hid aH;have bG:=hid bi;clear aH bi bb;go_upto_region 19 with(first|((with_reducible show wpList _ _ _ (Oper.mk none (Op.store 73 _ _) _ _ _ _::_) _ _);refine wpList_store_row rfl 73 _ _ rfl w5.heap.size (Yb t.k (.slice a5 n5 k5) (.slice a6 n6 k6) ql (t.outN Z) (.slice ad nd kd)) rfl rfl 73 _ (Wn _ _) (by kernel_rfl) rfl (by simp[Value.oneCell',Yb]) ?_))
      refine qm ?_;intro X hX;obtain⟨p,hp⟩:=Ex w5.heap.size;have bj:X.heap[p]? =some (.cells (Yb t.k (.slice a5 n5 k5) (.slice a6 n6 k6) ql (t.outN Z) (.slice ad nd kd)) 73 (0,0)):=by rw[hX,←hp];exact setRow_heap _ _ _ _ _ _ (Wn _ _)
      have a4:Below p w5 X:=by rw[hX,←hp];exact below_setRow (Br.alloc Nl _) Nl _
      rw[hp];have dY:=bG.out.size;have aI:=hid (show Below wd.heap.size wd X from bG.out.trans (a4.mono (by omega)));have aO:=hid (qk cd.out (fun g _ g2=>a4.block g (by omega)));have bF:KeepH w0 O X (.slice a6 n6 k6) (Z1 q kz):=by rw[←e6];exact(qix HT.out q (aM.out.trans (aI.out.mono (by omega))) O).1
      have aJ:=hid bF;have a3:=hid (show KeepH w0 O X (.slice ad nd kd) (qQ I j) from .inl ((cF.out.le (show O≤bV by rw[←aa.out];omega)).kb (KB.of_below aI.out (Nat.zero_le _))));have ak:=hid (aV.out.trans (aI.out.mono cx));unfold Yb at bj;clear hX hp a4 bF;go_wp2_with ((with_reducible show wpList _ _ _ (Oper.mk _ (Op.load 73 _) _ _ _ _::_) _ _);refine wpList_load_row rfl 73 _ rfl p rfl _ _ _ _ bj Tryz.underlying73 rfl (by kernel_rfl) ?_)
      refine(qe9 HT.out (row:=q) (at_:=j) (by omega) (by omega) ql Z (qQ I j) (.slice ad nd kd) (.slice a5 n5 k5) (.slice a6 n6 k6) X _ aO.out aJ.out.hold a3.out.hold (by have:=ci.out;omega)).mono ?_;rintro e w6 ⟨u,rfl,hO,aq⟩;obtain⟨a7,k7,rfl, -, -⟩:=hO.hold.slice;have dQ:=aq.size;have aK:O≤X.heap.size:=by have:=ak.out.size;omega
      have aX:=hid (KB.of_below aq aK);have bJ:=qg bj aq;have dj:=hid (hO.le aK);have ao:=hid (ak.out.trans (aq.mono (show wr.heap.size≤X.heap.size from ak.out.size)));have cH:=hid (show CallAt w0 O w6 (t.callS kz z1 z2 q j ql Z (qQ I j)) [.int .i64 t.k,.slice a5 n5 k5,.slice a6 n6 k6,.bool ql,.int .i64 (t.outN Z),.slice ad nd kd] from
       ⟨_,_,_,_,_,_,_,_,_,rfl,⟨(HT.out.okD (row:=q) (at_:=j) (by omega) (by omega)).2.2.1,(Y6 (ownsRow_le aO.out (show O≤wd.heap.size by omega))).kb aX.out⟩,aJ.out.kb (by omega) aX.out,a3.out.kb (by omega) aX.out⟩)
      obtain⟨cs,bS,ac,bh⟩:=aB.out;obtain⟨vs,U,ai⟩:=HO.out;rw[qZ]at bS ac bh;rw[qK]at U ai;have cR:vs.length=j:=by have:=U.1;omega
      have aS:=hid (KB.of_below ao.out aw);have cN:=hid (fun i hi=>(bh i hi).kb (show w0.heap.size≤O by omega) aS.out);have ct:=hid (fun i hi=>(ai i hi).kb aS.out);have aW:=hid (qk ac (fun g _ g2=>ao.out.block g g2));have bc:=hid (qk U (fun g _ g2=>ao.out.block g g2));obtain⟨a8,n8,k8,rfl⟩:=yM ac;obtain⟨a9,n9,k9,rfl⟩:=qu U;have bz:t.node kz z1 z2 q j ql Z (qQ I j)=t.node kz z1 z2 q j (decide (j+1=I.length)) Z (qQ I j):=by rw[bH.out]
      have bU:t.callS kz z1 z2 q j ql Z (qQ I j)=t.callS kz z1 z2 q j (decide (j+1=I.length)) Z (qQ I j):=by rw[bH.out]
      have cu:=hid bz;have dg:=hid bU;generalize t.node kz z1 z2 q j ql Z (qQ I j)=N at*;generalize t.callS kz z1 z2 q j ql Z (qQ I j)=C at*;have dG:=ao.out.size;have dO:p<w6.heap.size:=(Ai bJ).1;clear aq hO bz bU ac bh U ai aJ a3 aO aB HO ak aL cp ax bL ah;go_upto_region 21 with(first|((with_reducible show wpList _ _ _ (Oper.mk _ (Op.load 73 _) _ _ _ _::_) _ _);refine wpList_load_row rfl 73 _ rfl p rfl _ _ _ _ bJ Tryz.underlying73 rfl (by kernel_rfl) ?_)|((with_reducible show wpList _ _ _ (Oper.mk _ (Op.buildSlice _ _ _) _ _ _ _::_) _ _);refine jG rfl _ rfl _ _ _ _ _ _ rfl ?_)|(at_builtin;refine yI rfl _ _ _ rfl O 73 (by decide) ic _ 6 96 Tryz.underlying111 dp cG cC cV rfl (by decide) (.slice a8 n8 k8) j cs.flatten [.int .i64 t.k,.slice a5 n5 k5,.slice a6 n6 k6,.bool ql,.int .i64 (t.outN Z),.slice ad nd kd] _ rfl aW.out rfl rfl (by simp[Value.oneCell']) (by unfold maxLen;omega) (by omega) (by omega) ?_;intro v' w' J ab ae))
      have bf:=hid (QZ bc.out (yO aW.out bc.out (by decide) ae));have cJ:=hid (show CallsO w0 O w' v' (t.rowC kz z1 z2 q Z I (j+1)) from by
       rw[Zy,←dg.out];refine CallsO.snoc (w:=w6) (cs:=cs) (fun i hi=>?_) (by rw[qZ];exact bS) cH.out (by rw[qZ];exact J) (by omega) ab;rw[qZ]at hi;exact cN.out i hi)
      have ag:=hid ab;have dv:=ab.size;obtain⟨d8,dS,dV,rfl⟩:=yM J;have cm:=hid J;clear J ab ae;go_wp2_with (first|((with_reducible show wpList _ _ _ (Oper.mk _ (Op.buildSlice _ _ _) _ _ _ _::_) _ _);refine zS rfl _ rfl _ _ _ rfl ?_)|(at_builtin;refine yI rfl _ _ _ rfl O 24 (by decide) ib (.slice none 0 0) 1 24 Tryz.underlying67 dd dl dr c7 rfl (by decide) (.slice a9 n9 k9) j vs [.slice a7 N.length k7] _ rfl bf.out rfl rfl (by simp[Value.oneCell']) (by unfold maxLen;omega) (by omega) (by omega) ?_;intro v7 w7 bo av co))
      refine⟨⟨j+1,rfl,by omega,?_,?_,(br.out.trans (ao.out.mono aw)).trans ((ag.out.trans av).below)⟩,by simp[intOf];omega⟩
      ·exact cJ.out.kb (by omega) av (yO bf.out cm.out (by decide) co)
      ·rw[Zw,←cu.out];refine ListO.snoc (w:=w') (vs:=vs) (x:= .slice a7 N.length k7) (fun i hi=>?_) (by rw[qK];exact cR) (dj.out.kb ag.out) (by rw[qK];exact bo) av;rw[qK]at hi;exact(ct.out i hi).kb ag.out
    obtain rfl:j=I.length:=by omega
    have cf:wr.cell? ⟨gR,q,none⟩=some (.int .u64 (I.length:Nat)):=(G.cell (p:=⟨gR,q,none⟩) (show gR<O by omega)).trans bk;have aw:O≤wr.heap.size:=by have:=G.size;omega
    have cn:gR<wr.heap.size:=by omega
    obtain⟨vs,U,ai⟩:=bl.out.below (show w0.heap.size≤wq.heap.size by omega) (aT▸G);have c3:=hid ai;rw[TreeV.lvlsC_length]at U;have aP:=hid U;have aB:=hid (ac.le au);have HO:=hid (ho.le au);have cw:=hid (HB.out.trans (G.mono au));obtain⟨cs, -,bY, -⟩:=ac;obtain⟨dL,ba, -⟩:=ho;have cq:=hid ba;obtain⟨a7,n7,k7,rfl⟩:=qu U;obtain⟨a8,n8,k8,rfl⟩:=yM bY;obtain⟨a9,n9,k9,rfl⟩:=qu ba;have d7:r+1≤256:=by have:=HQ.out;omega
    clear U ai G bY ba;go_upto_region 23 with(first|((with_reducible show wpList _ _ _ (Oper.mk _ (Op.buildSlice _ _ _) _ _ _ _::_) _ _);refine jF rfl _ rfl _ _ _ rfl ?_)|(at_builtin;refine yI rfl _ _ _ rfl bR 111 (by decide) il (.slice none 0 0) 1 24 Tryz.underlying114 cS cr da cO rfl (by decide) (.slice a7 n7 k7) r vs [.slice a8 n8 k8] _ rfl aP.out rfl rfl (by simp[Value.oneCell']) (by unfold maxLen;omega) (by omega) (by omega) ?_;intro v' w' J ab ae))
    have ag:=hid ab;have bW:=hid ae;have cZ:=hid J;have d9:IntKind.i64.wrap ((q:Int)+1)=((q+1:Nat):Int):=by rw[IntKind.wrap_i64]<;>omega
    clear J ab ae;go_wp2_with fail
    have bM:ListO bR w' (.slice a9 n9 k9) (t.lvlZ kz z1 z2 L0 q):=by
     rw[cI.out];exact HO.out.kb ag.out (yO aP.out cq.out (by decide) bW.out)
    refine⟨⟨q,q+1,rfl,rfl,by omega,?_,bM.hold,fun _=>bM,cw.out.trans ag.out.below⟩,by simp[intOf];omega⟩;have e:=z9 t kz z1 z2 L0 r;rw[←HQ.out,cX.out]at e;rw[e];exact LevO.snoc (v:= .slice a7 n7 k7) (vs:=vs) (x:= .slice a8 n8 k8) (by rw[TreeV.lvlsC_length];exact aP.out) c3.out aB.out (by rw[TreeV.lvlsC_length];exact cZ.out) (by omega) ag.out bW.out
  obtain rfl:q=RS.length:=by omega
  have bt:r=RS.length - 1:=by omega
  have ap:ListO bR wr u11 (t.lvlZ kz z1 z2 L0 r):=ap (by omega);obtain⟨f1, -, -⟩:=HF.out r;have bx:=hid bt;obtain⟨g,cg,y,rfl,hg,hy,aR⟩:=ap.get (i:=0) (List.length_pos_iff.2 f1);obtain⟨xb,xd,rfl, -, -⟩:=aR.hold.slice;have dk:=hid (aR.le (show b0≤bR by omega));have bl:=hid (aE.le (show b0≤bR by omega));have HB:=hid (aU.out.trans (G.mono (show b0≤bR by omega)));have dB:bR≤wr.heap.size:=by have:=G.size;omega
  obtain⟨vs,U, -⟩:=aE;obtain⟨a7,n7,k7,rfl⟩:=qu U;have d4:0<(t.lvlZ kz z1 z2 L0 r).length:=List.length_pos_iff.2 f1;generalize (t.lvlZ kz z1 z2 L0 r).length=M at*;clear U ap aR G hx bt f1;generalize hY:qQ (t.lvlZ kz z1 z2 L0 r) 0=Y at*;have HY:=hid hY;clear hY;go_wp2_with fail
  refine qD (n:=6) (w0:=wr) (B:=wr.heap.size) [.v 90 (.slice a7 n7 k7),.v 91 (.slice (some ⟨g,0,none⟩) M cg),.v 92 (.pointer (some ⟨g,0,none⟩)),.v 93 (.slice xb Y.length xd),.v 6 (.slice a7 n7 k7),.v 7 (.slice xb Y.length xd)] trivial Br.drew Nl ?_ ?_
  ·repeat' (with_reducible first|exact qz|refine qx ?_ ?_)
   all_goals
    intro AA x W hA hW cM ce D K hK;have dm:=hA.2 10 (by decide);conv at dm=>rhs;whnf
    have cL:=hA.2 11 (by decide);conv at cL=>rhs;whnf
    simp only[QN,QV]at D;clear ce hA;first
    | go_simp
      exact hK _ _ BR rfl
    | have y0:=(hW.cell (p:=⟨g,0,none⟩) hg).trans hy
      have y1:g<W.heap.size:=by omega
      go_simp
      exact hK _ _ BR rfl
  intro x W hW cM _;refine qv ?_;simp only[QA,Act.put,Ls];have dM:wr.heap.size=wr.heap.size:=rfl;go_wp2
  go_ret2
  exact⟨_,_,rfl,by(try rw[aj]);(try rw[←bx.out]);exact bl.out.below (by omega) hW,by(try rw[aj]);(try rw[←bx.out]);rw[HY.out];exact dk.out.kb (KB.of_below hW (Nat.zero_le _)),by(try rw[aj]);exact HB.out.trans (hW.mono (by omega))⟩
def TreeV.digZ (t:TreeV)(kz z1 z2 zs:List Int):List Int:=if t.validE=0 then qQ (t.lvlZ kz z1 z2 (t.leafZ kz z1 z2 zs) ((t.rowsOf zs.length).length - 1)) 0 else []
theorem Zl {t:TreeV}(h:t.validE=0)(q:0≤t.l∧t.l≤4294967295)(kz z1 z2 zs:List Int):(t.leafZ kz z1 z2 zs).length=lvs zs.length t.ln:=by
 have o:1≤t.ln:=by
  have:=(qq h).2.2.2.2.2.2.2.2.1
  unfold TreeV.ln;omega
 rw[←zJ zs o];exact qK ..
theorem qak (t:TreeV)(w:World):Calls Tryz.prog 11 #[t.val] w fun e w'=>e= .returned (.int .i64 t.validE)∧Below w.heap.size w w':=by
 obtain⟨I,q⟩:=Ex w.heap.size;have O:=hid (fun W:World=>yt t W);have G:Below I w (w.alloc (.cells #[.int .i64 t.k,.int .i64 t.d,.int .i64 t.f,.int .i64 t.p,.int .u32 t.l,.int .i64 t.i,.slice t.ka t.kl t.kc,.slice t.sa t.sl t.sc,.slice t.pa t.pl t.pc] 26)):=by rw[←q];exact Br.alloc Nl _
 have o:=Wn w (.cells #[.int .i64 t.k,.int .i64 t.d,.int .i64 t.f,.int .i64 t.p,.int .u32 t.l,.int .i64 t.i,.slice t.ka t.kl t.kc,.slice t.sa t.sl t.sc,.slice t.pa t.pl t.pc] 26);rw[q]at o;generalize t.validE=X at*;unfold TreeV.val at*;go_enter Tryz.func11,Tryz.ntmps11
 go_upto_region 1 with(fail)
 generalize w.alloc (.cells #[.int .i64 t.k,.int .i64 t.d,.int .i64 t.f,.int .i64 t.p,.int .u32 t.l,.int .i64 t.i,.slice t.ka t.kl t.kc,.slice t.sa t.sl t.sc,.slice t.pa t.pl t.pc] 26)=U at*;go_wp2_with ((with_reducible show wpList _ _ _ (Oper.mk _ (Op.load 26 _) _ _ _ _::_) _ _);refine wpList_load_row rfl 26 _ rfl I rfl _ _ _ _ o Tryz.underlying26 rfl (by kernel_rfl) ?_)
 refine(O.out U).mono ?_;rintro e V ⟨rfl,D⟩;have J:=hid (G.trans (D.mono (by have:=(Ai o).1;omega)));clear o G D;go_wp2
 go_ret
 exact⟨rfl,by rw[q];exact J.out⟩
theorem qcO {W:World}{B T s n:Nat}{v:Value}{xs:List Value}(h:W.ownsRow B T s v n xs)(X:0<n): ∃g o,v= .slice (some ⟨g,0,none⟩) n o∧B≤g∧g<W.heap.size∧ ∀j u,xs[j]? =some u→W.cell? ⟨g,j,none⟩=some u:=by
 rcases h.2 with⟨-,rfl⟩|⟨g,o,J,rfl,I,D,O,V,U,G⟩
 ·omega
 ·refine⟨g,o,rfl,I,(Ai D).1,fun j u q=>(qd D j).trans ?_⟩;rw[←G,List.getElem?_take]at q;split at q
  ·rw[←Array.getElem?_toList];exact q
  ·cases q
theorem qai {P:Program}{ops:Array Oper}{O:List Oper}{o:Oper}{a:Act}{Q:Exit→Act→World→Prop}{W:World}(ae:o.guard=none)(s x:Operand)(t:TypeId)
 (ho:o.op= .call { callee:= .builtin .append,args:= #[s,x],argTypes:= #[t,t] }) (B:Nat) (e:TypeId) (he:e≠5) (i:TypeInfo) (z:Value) (size D:Nat) (ht:P.underlying t=some (.slice e)) (hi:P.info? e=some i) (hz:i.zero=some z)
 (X:i.size=size) (af:i.bytes=D) (ab:z.cells.size=size) (ac:0<size) (v:Value) (n:Nat) (xs:List Value) (hs:a.eval s=v) (G:W.ownsRow B e size v n xs)
 (B2:Nat) (y:Value) (m:Nat) (ys:List Value) (hx:a.eval x=y) (hy:W.ownsRow B2 e size y m ys) (hm:0<m) (h1: ∀u∈ys,u.oneCell'=true) (ad:n+m≤maxLen) (J:(n+m)*D≤140737488355328) (hB:B≤W.heap.size)
 (h: ∀v' w',w'.ownsRow B e size v' (n+m) (xs++ys)→KB B W w'→Spare (fun k=>v.ownBlock≠some k) W w'→(v'.ownBlock=v.ownBlock∨v'.ownBlock=some W.heap.size)→wpList P ops Q O (a.put o.dst v') w'):wpList P ops Q (o::O) a W:=by
 obtain⟨g,U,rfl,ag,ah,aa⟩:=qcO hy hm;refine wpList_append_own_at _ ae s x t ho B e i z size D ht hi hz X af ab ac v n xs hs G ⟨g,0,none⟩ m U ys hx hy.1 (fun j u hj=>?_) h1 ad J hB fun v' w' h2 h3 _ Y=>?_
 ·rw[Go.WideShapes.add_plain,Nat.zero_add];exact aa j u hj
 have q:Spare (fun k=>v.ownBlock≠some k) W w':=Spare.of_grown h3;refine h v' w' h2 ⟨q.os,q.tape,q.output,q.size,fun k hk=>q.block k (by omega) (fun I=>?_),fun k c V=>?_⟩ q Y
 ·rcases G.2 with⟨rfl, -⟩|⟨g,U,Z,rfl,h4, -⟩
  ·cases I
  ·simp only[Value.ownBlock,Option.some.injEq]at I;omega
 ·rw[q.block k (Ai V).1 (fun I=>?_)]
  ·exact V
  ·rcases G.2 with⟨rfl, -⟩|⟨g,U,Z,rfl, -,Y, -⟩
   ·cases I
   ·simp only[Value.ownBlock,Option.some.injEq]at I;subst I;rw[Y]at V;simp only[Option.some.injEq,Obj.cells.injEq]at V;exact he V.2.1
theorem qee {α:Type}(L M:List α)(d:α)(i:Nat):(L++M).getD i d=if i<L.length then L.getD i d else M.getD (i - L.length) d:=by
 simp only[Lg];split
 ·rename_i h;rw[List.getElem?_append_left h]
 ·rename_i h;rw[List.getElem?_append_right (by omega)]
theorem qh7 {w0 w w':World}{B:Nat}{v v':Value}{S Z:List (List CallS)}{vs ys:List Value}(o:w.ownsRow B 111 1 v S.length vs)(O: ∀i,i<S.length→CallsO w0 B w (vs.getD i undef) (S.getD i []))(hy:ys.length=Z.length)(D: ∀i,i<Z.length→CallsO w0 B w (ys.getD i undef) (Z.getD i []))
 (q:w'.ownsRow B 111 1 v' (S.length+Z.length) (vs++ys)) (Y:w0.heap.size≤B) (I:KB B w w') (G:Spare (fun k=>v.ownBlock≠some k) w w'):LevO w0 B w' v' (S++Z):=by
 have U:vs.length=S.length:=by have:=o.1;simpa using this
 have one: ∀u S,CallsO w0 B w u S→CallsO w0 B w' u S:=fun u S h=>by
  refine h.kb Y I fun g V=>?_
  obtain⟨cs, -,J, -⟩:=h;exact yO o J (by decide) G g V
 refine⟨vs++ys,by simpa using q,fun i X=>?_⟩;simp only[List.length_append]at X;rw[qee,qee,U];split
 ·rename_i h;exact one _ _ (O i h)
 ·rename_i h;exact one _ _ (D (i - S.length) (by omega))
theorem CallsO.one {w0 w:World}{B:Nat}{v:Value}{S:List CallS}(h:CallsO w0 B w v S):v.oneCell'=true:=by
 obtain⟨cs, -,o, -⟩:=h;obtain⟨a,n,c,rfl⟩:=yM o;rfl
theorem TreeV.lvls_all (t:TreeV)(kz z1 z2 zs:List Int)(m:Nat):[t.rowC kz z1 z2 0 false (yp t.ln zs) (yp t.ln zs).length]++t.lvlsC kz z1 z2 (t.leafZ kz z1 z2 zs) m=t.allC kz z1 z2 zs (m+1):=by
 induction m with
 | zero=>rfl
 | succ m ih=>rw[z9,qaT,←ih,List.append_assoc];rfl
def TreeV.outC (t:TreeV)(s:CallS):List Int:=jO t.big s.bs s.kz s.la s.o s.ds
def RowsV (B:Nat)(w:World)(lv:Value)(vs:List Value)(LL:List (List (List Int))):Prop:=
 w.ownsRow B 67 1 lv LL.length vs∧(∀i,i<LL.length→ListO B w (vs.getD i undef) (LL.getD i []))∧ ∀i j g,i<j→j<LL.length→(vs.getD i undef).ownBlock=some g→(vs.getD j undef).ownBlock≠some g
theorem RowsV.len {B:Nat}{w:World}{o:Value}{vs:List Value}{LL:List (List (List Int))}(h:RowsV B w o vs LL):vs.length=LL.length:=by have:=h.1.1;simpa using this
theorem RowsV.tend {B:Nat}{w w':World}{o:Value}{vs:List Value}{LL:List (List (List Int))}(h:RowsV B w o vs LL)(G: ∀(k:Nat) (c:Array Value),w.heap[k]? =some (.cells c 5 (0,0))→w'.heap[k]? =some (.cells c 5 (0,0)))
  (J: ∀g,o.ownBlock=some g→w'.heap[g]? =w.heap[g]?) (D: ∀i g,i<LL.length→(vs.getD i undef).ownBlock=some g→w'.heap[g]? =w.heap[g]?):RowsV B w' o vs LL:=
 ⟨QZ h.1 J,fun i q=>(h.2.1 i q).tend G (fun g I=>D i g q I),h.2.2⟩
theorem Ju {w:World}{B T n s:Nat}{v:Value}{xs:List Value}(q:w.ownsRow B T s v n xs): ∀g,v.ownBlock=some g→B≤g:=by
 intro g o;rcases q.2 with⟨rfl, -⟩|⟨I,D,G,rfl,J, -, -⟩
 ·cases o
 ·simp only[Value.ownBlock,Option.some.injEq]at o;omega
theorem Yu {w:World}{B T n s:Nat}{v:Value}{xs:List Value}(D:w.ownsRow B T s v n xs): ∀g,v.ownBlock=some g→ ∃c,w.heap[g]? =some (.cells c T (0,0)):=by
 intro g o;rcases D.2 with⟨rfl, -⟩|⟨J,G,I,rfl, -,q, -⟩
 ·cases o
 ·simp only[Value.ownBlock,Option.some.injEq]at o;subst o;exact⟨_,q⟩
theorem ListO.row {B:Nat}{w:World}{v:Value}{L:List (List Int)}(h:ListO B w v L): ∃vs,w.ownsRow B 24 1 v L.length vs:=by
 obtain⟨vs,o, -⟩:=h;exact⟨vs,o⟩
theorem qhL {α:Type}(L:List α)(k i:Nat)(x d:α)(o:k<L.length):(L.set k x).getD i d=if k=i then x else L.getD i d:=by
 simp only[Lg,List.getElem?_set];by_cases h:k=i
 ·subst h;simp[o]
 ·simp[h]
theorem qhw {w:World}{g:Nat}{c c2:Array Value}{T D:TypeId}{fr q:Nat×Nat}(h:w.heap[g]? =some (.cells c T fr))(G:T≠D): ∀k,w.heap[k]? =some (.cells c2 D q)→k≠g:=by
 rintro k o rfl
 rw[h]at o;simp only[Option.some.injEq,Obj.cells.injEq]at o;exact G o.2.1
theorem Y3 {w:World}{B T n s g:Nat}{v:Value}{xs:List Value}{c:Array Value}{o:TypeId}{fr:Nat×Nat}(I:w.ownsRow B T s v n xs)(h:w.heap[g]? =some (.cells c o fr))(G:o≠T): ∀k,v.ownBlock=some k→k≠g:=fun k q=>by
 obtain⟨c2,D⟩:=Yu I k q;exact qhw h G k D
theorem qbu:(Tryz.prog.info? 67).map (fun i=>(i.zero,i.size,i.bytes))=some (some (.slice none 0 0),1,24):=by kernel_rfl
theorem qbR {ops:Array Oper}{q:List Oper}{o:Oper}{G:Act}{w:World}{Q:Exit→Act→World→Prop}(X:o.guard=none)(x:Operand)(U:o.op= .buildSlice 70 1 #[(0,x)])(a:Option Addr)(n k:Nat)(O:G.eval x= .slice a n k)
  (h:wpList Tryz.prog ops Q q (G.put o.dst (.slice (some ⟨w.heap.size,0,none⟩) 1 1)) (w.alloc (.cells #[.slice a n k] 67))):wpList Tryz.prog ops Q (o::q) G w:=by
 obtain⟨V,J,I,D, -⟩:=info_parts qbu;exact wpList_buildSlice X 70 67 1 _ U #[.slice a n k] V _ Tryz.underlying70 J I (by rw[D];decide) (by rw[D];decide) (by rw[D,show Array.range (1*1)= #[0] by decide];simp[O,Instr.fill,Value.cells]) h
theorem CallAt.cells {w0 w:World}{B:Nat}{s:CallS}{c:List Value}(h:CallAt w0 B w s c): ∃q G D,c=[.int .i64 s.k,q,G,.bool s.la,.int .i64 s.o,D]∧Hold w q s.bs∧Hold w G s.kz∧Hold w D s.ds:=by
 obtain⟨a1,Y,c1,a2,X,c2,V,Z,U,rfl,O,I,J⟩:=h;exact⟨_,_,_,rfl,O.hold,I.hold,J.hold⟩
theorem qf1 {α:Type}{n:Nat}: ∀{cs:List (List α)},(∀c∈cs,c.length=n)→ ∀{i j:Nat},i<cs.length→j<n→cs.flatten[i*n+j]? =(cs.getD i [])[j]?
 | [],_,i,j,hi,_=>by simp at hi
 | c::cs,h,i,j,hi,hj=>by
  have o:=h c (List.mem_cons_self ..)
  cases i with
  | zero=>
   rw[List.flatten_cons,List.getElem?_append_left (by omega),Nat.zero_mul,Nat.zero_add];rfl
  | succ i=>
   have e:(i+1)*n+j - c.length=i*n+j:=by rw[o,Nat.add_mul];omega
   rw[List.flatten_cons,List.getElem?_append_right (by rw[o,Nat.add_mul];omega),e];exact qf1 (fun c o=>h c (List.mem_cons_of_mem _ o)) (by simpa using hi) hj
theorem CallsO.form {w0 w:World}{B:Nat}{v:Value}{S:List CallS}(h:CallsO w0 B w v S): ∃a c,v= .slice a S.length c:=by
 obtain⟨cs, -,o, -⟩:=h;rcases o.2 with⟨rfl,e⟩|⟨g,q,D,rfl, -⟩
 ·exact⟨none,0,by rw[e]⟩
 ·exact⟨_,_,rfl⟩
theorem CallsO.get {w0 w:World}{B i:Nat}{v:Value}{S:List CallS}{s:CallS}(h:CallsO w0 B w v S)(hi:i<S.length)(hs:S.getD i .zero=s):
  ∃g G D I O J,v= .slice (some ⟨g,0,none⟩) S.length G∧B≤g∧w.heap[g]? =some (.cells D 73 (0,0))∧(∀j,j<6→D[i*6+j]? =(#[.int .i64 s.k,I,O,.bool s.la,.int .i64 s.o,J]:Array Value)[j]?)∧Hold w I s.bs∧Hold w O s.kz∧Hold w J s.ds:=by
 obtain⟨cs,hl,ho,X⟩:=h;rcases ho.2 with⟨-,e⟩|⟨g,G,D,rfl,h1,h2,h3,h4,h5,h6⟩
 ·omega
 obtain⟨I,O,J,e,V,Y,Z⟩:=(X i hi).cells;rw[hs]at e V Y Z;refine⟨g,G,D,I,O,J,rfl,h1,h2,fun j hj=>?_,V,Y,Z⟩;have U:=qf1 (n:=6) (cs:=cs) (fun c hc=>by
  obtain⟨q,hq,rfl⟩:=List.mem_iff_getElem.1 hc;obtain⟨_,_,_,e, -⟩:=(X q (by omega)).cells;rw[Lg (l:=cs),List.getElem?_eq_getElem hq]at e;rw[show cs[q]=_ from e];rfl) (i:=i) (j:=j) (by omega) hj
 rw[e,←h6,List.getElem?_take]at U;rw[if_pos (by omega)]at U;rw[←Array.getElem?_toList,U,←Array.getElem?_toList]
theorem jS (t:TreeV)(kz z1 z2 zs:List Int){m i:Nat}(h:i<m):(t.allC kz z1 z2 zs m).getD i []=t.callsR kz z1 z2 zs i:=by simp[TreeV.allC,Lg,h]
theorem qae {t:TreeV}(h:t.validE=0)(o:0≤t.l∧t.l≤4294967295)(kz z1 z2 zs:List Int)(r:Nat):1≤(t.callsR kz z1 z2 zs r).length∧(t.callsR kz z1 z2 zs r).length≤zs.length+1:=by
 have:=JN h o kz z1 z2 zs r
 unfold TreeV.callsR;rw[qZ];exact⟨this.1,this.2.1⟩
theorem RowsV.nil (B:Nat)(w:World):RowsV B w (.slice none 0 0) [] []:=⟨Wo _ _ _ _,fun i o=>by simp at o,fun i j g _ q=>by simp at q⟩
theorem RowsV.le {B b:Nat}{w:World}{q:Value}{vs:List Value}{LL:List (List (List Int))}(h:RowsV B w q vs LL)(o:b≤B):RowsV b w q vs LL:=⟨ownsRow_le h.1 o,fun i D=>(h.2.1 i D).le o,h.2.2⟩
theorem RowsV.below {B:Nat}{w w':World}{D:Value}{vs:List Value}{LL:List (List (List Int))}(h:RowsV B w D vs LL)(o:Below w.heap.size w w'):RowsV B w' D vs LL:=
 h.tend (KB.of_below o (Nat.zero_le _)).bytes (fun g q=>o.block g (Qf h.1 g q)) (fun i g I q=>o.block g (by obtain⟨xs,G⟩:=(h.2.1 i I).row;exact Qf G g q))
theorem RowsV.push {B:Nat}{w w':World}{V G x:Value}{vs:List Value}{LL:List (List (List Int))}{L:List (List Int)}(h:RowsV B w V vs LL)(O:ListO B w x L)(Y: ∀i g,i<LL.length→(vs.getD i undef).ownBlock=some g→x.ownBlock≠some g)(Z:w'.ownsRow B 67 1 G (LL.length+1) (vs++[x]))(J:KB B w w')(I:Spare (fun k=>V.ownBlock≠some k) w w'):RowsV B w' G (vs++[x]) (LL++[L]):=by
 have X:=h.len;refine⟨by simpa using Z,fun i hi=>?_,fun i j g U hj q=>?_⟩
 ·simp only[List.length_append,List.length_singleton]at hi;rw[YH,YH,X];by_cases o:i<LL.length
  ·rw[if_pos o,if_pos o];obtain⟨xs,D⟩:=(h.2.1 i o).row;exact(h.2.1 i o).kb J (yO h.1 D (by decide) I)
  ·rw[if_neg o,if_neg o,if_pos (by omega),if_pos (by omega)];obtain⟨xs,D⟩:=O.row;exact O.kb J (yO h.1 D (by decide) I)
 ·simp only[List.length_append,List.length_singleton]at hj;rw[YH,X]at q⊢;by_cases o:j<LL.length
  ·rw[if_pos (by omega)]at q;rw[if_pos o];exact h.2.2 i j g U o q
  ·rw[if_pos (by omega)]at q;rw[if_neg o,if_pos (by omega)];exact Y i g (by omega) q
theorem qaS (t:TreeV)(kz z1 z2 zs:List Int){r k:Nat}(h:k<(t.dataR kz z1 z2 zs r).length):(t.callsR kz z1 z2 zs r).getD k .zero=t.callS kz z1 z2 r k (decide (k+1=(t.dataR kz z1 z2 zs r).length)) (t.rtR kz z1 z2 zs r) (qQ (t.dataR kz z1 z2 zs r) k):=by simp[TreeV.callsR,TreeV.rowC,Lg,h]
theorem qcb {α β:Type}(f:α→β){L:List α}{k:Nat}(d:α)(h:k<L.length):(L.take (k+1)).map f=(L.take k).map f++[f (L.getD k d)]:=by
 rw[List.take_succ,List.map_append];simp[Lg,h]
def TreeV.rowsZ (t:TreeV)(kz z1 z2 zs:List Int):List (List (List Int)):=if t.validE=0 then(t.allC kz z1 z2 zs ((t.rowsOf zs.length).length - 1+1)).map (·.map t.outC) else []
namespace ListsV
variable {B:Nat} {W W':World} {xs:List Value} {LL:List (List (List Int))} {DS:List (List Value)}
end ListsV
theorem RowsV.getP {B i:Nat}{w:World}{q:Value}{vs:List Value}{LL:List (List (List Int))}(h:RowsV B w q vs LL)(I:i<LL.length): ∃g o,q= .slice (some ⟨g,0,none⟩) LL.length o∧g<w.heap.size∧w.cell? ⟨g,i,none⟩=some (vs.getD i undef):=by
 obtain⟨g,o,e, -,D,G⟩:=qcO h.1 (by omega);refine⟨g,o,e,D,G i _ ?_⟩;have:=h.len
 rw[Lg,List.getElem?_eq_getElem (by omega)];rfl
theorem qgY {big:Bool}{D kz ds:List Int}{q:Bool}{o:Int}(h:1≤o∧o≤(mB big:Nat)):((jO big D kz q o ds).length:Int)=o:=by
 unfold jO;rw[List.length_take,zz];omega
theorem qb7 {t:TreeV}(h:t.validE=0)(o:Bool):1≤t.outN o∧t.outN o≤(mB t.big:Nat):=by
 have q:=yz h;obtain⟨-,d1,d2,D,G, -⟩:=qq h
 cases o
 ·show 1≤t.i∧t.i≤_;omega
 ·show 1≤t.d∧t.d≤_;omega
theorem qaQ {t:TreeV}(h:t.validE=0)(kz z1 z2:List Int)(row i:Nat)(q o:Bool)(d:List Int):((t.node kz z1 z2 row i q o d).length:Int)=t.outN o:=qgY (qb7 h o)
theorem qbJ {t:TreeV}(h:t.validE=0)(kz z1 z2 zs:List Int){k:Nat}(D:k<(t.rowsOf zs.length).length):(t.rowsZ kz z1 z2 zs).getD k []=t.lvlZ kz z1 z2 (t.leafZ kz z1 z2 zs) k∧k<(t.rowsZ kz z1 z2 zs).length:=by
 unfold TreeV.rowsZ;rw[if_pos h];have o:k<(t.allC kz z1 z2 zs ((t.rowsOf zs.length).length - 1+1)).length:=by rw[TreeV.allC_length];omega
 refine⟨?_,by rw[List.length_map];exact o⟩;have q:=jS t kz z1 z2 zs (m:=(t.rowsOf zs.length).length - 1+1) (i:=k) (by omega);rw[Lg,List.getElem?_eq_getElem o,Option.getD_some]at q;rw[Lg,List.getElem?_map,List.getElem?_eq_getElem o,Option.map_some,Option.getD_some,q,qdu];unfold TreeV.callsR TreeV.rowC TreeV.rowZ;rw[List.map_map];rfl
end Go.Proofs.YthjoojnlnlmljaaGreat
