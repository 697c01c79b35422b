/- The reference's leaves, of long messages too. No condition. -/
import Derived.Test.YthjoojnlnlmljaaGreatG33
import Derived.Test.YthjoojnlnlmljaaGreatG39
import Derived.Test.YthjoojnlnlmljaaGreatG44
import Derived.Test.YthjoojnlnlmljaaGreatG46
import Derived.Test.YthjoojnlnlmljaaGreatG41
import Derived.Deep.Slices
set_option linter.all false
set_option maxRecDepth 100000
set_option maxHeartbeats 8000000
namespace Go.Proofs.YthjoojnlnlmljaaGreat
open Go.ChangeShapes Go.WideShapes Go.ChangeAt Go.RowKit Go.Joins Go.Shelf Go.Maps
open Go.Lib (hid)
attribute [local go_sem] Oper.semAt_some
theorem qdQ {t:TreeV}{kz z1 z2:List Int}{w:World}(h:TreeOk t kz z1 z2 w){row at_:Nat}(hr:row≤255)(X:at_<281474976710656)(o q:Bool)(ds:List Int)(G D I:Value)(W:World)(b:Nat)
  (Y:W.ownsRow b 5 1 D (mB t.big) ((t.blk z1 z2 row at_).map qt)) (J:Hold W I (Z1 row kz)) (U:Hold W G ds) (hl:ds.length≤140737488355200):
  Calls Tryz.prog 85 #[.agg (Yb t.k D I o (t.outN q) G)] W fun e w'=> ∃u,e= .returned (.tuple #[u,.int .i64 0])∧OwnB W.heap.size w' u (t.node kz z1 z2 row at_ o q ds)∧Below W.heap.size W w':=by
 obtain⟨h1,O,V,h4⟩:=h.okD hr X;rw[←yQ h.v];have h5:=h4 q;refine(j7 t.big _ _ ds o _ D I G W (Qq Y V) J U (by omega) h1 O (by omega)).mono ?_;rintro e w' ⟨⟨u,rfl,Z⟩,hb⟩
 exact⟨u,rfl,⟨yG t kz z1 z2 row at_ o q ds,Z⟩,hb⟩
theorem JA (t:TreeV)(kz z1 z2 zs:List Int)(v:Value)(w0 w:World)(h:TreeOk t kz z1 z2 w0)(he:t.err zs.length=0)(hv:Hold w0 v zs)(hw:Below w0.heap.size w0 w)(hn:zs.length≤35184372088832)(bk:lvs zs.length t.ln≤4194304):
  Calls Tryz.prog 64 #[t.val,v] w fun e w'=> ∃cv u,e= .returned (.tuple #[cv,u])∧CallsO w0 w.heap.size w' cv (t.rowC kz z1 z2 0 false (yp t.ln zs) (yp t.ln zs).length)∧ListO w.heap.size w' u (t.rowZ kz z1 z2 0 false (yp t.ln zs) (yp t.ln zs).length)∧Below w.heap.size w w':=by
 obtain⟨Z,am⟩:=Ex w.heap.size;have bQ:w0.heap.size≤Z:=by have:=hw.size;omega
 have HW:=hid hw;have HT:=hid h;have HV:=hid hv;obtain⟨ib,bE,bV,cc,b5⟩:=info_parts YG;obtain⟨ic,bZ,b8,bX,bH⟩:=info_parts J5;have be:=fun W:World=>Zi t h.l zs.length (by omega) he W
 have aW:=hid be;obtain⟨va,J,rfl,cg,ci⟩:=hv.slice;have bb:Below Z w (w.alloc (.cells #[.int .i64 t.k,.int .i64 t.d,.int .i64 t.f,.int .i64 t.p,.int .u32 t.l,.int .i64 t.i,.slice t.ka t.kl t.kc,.slice t.sa t.sl t.sc,.slice t.pa t.pl t.pc] 26)):=by rw[←am];exact Br.alloc Nl _
 have ak:=Wn w (.cells #[.int .i64 t.k,.int .i64 t.d,.int .i64 t.f,.int .i64 t.p,.int .u32 t.l,.int .i64 t.i,.slice t.ka t.kl t.kc,.slice t.sa t.sl t.sc,.slice t.pa t.pl t.pc] 26);rw[am]at ak;have ay:1≤t.ln:=(QF h.l he).1;have ag:=zJ zs ay;have cd:1≤(yp t.ln zs).length∧(yp t.ln zs).length≤4194304:=⟨(qbD zs ay).1,by rw[ag];exact bk⟩;clear bk;have bS:=hid (fun i=>qbC (n:=t.ln) zs i);have b6:=hid (fun i hi=>qgI (i:=i) he ay hi);rw[←ag]at aW;have HE:=hid he;have bY:=hid (fun(W:World) (i:Nat)=>ZS t h.l zs.length (by omega) ((0:Nat):Int) i W);generalize yp t.ln zs=L at*;clear h hv ay hw ag be he;unfold TreeV.val at*;go_enter Tryz.func64,Tryz.ntmps64
 go_upto_region 1 with(fail)
 generalize w.alloc (.cells #[.int .i64 t.k,.int .i64 t.d,.int .i64 t.f,.int .i64 t.p,.int .u32 t.l,.int .i64 t.i,.slice t.ka t.kl t.kc,.slice t.sa t.sl t.sc,.slice t.pa t.pl t.pc] 26)=wA at*;have co:IntKind.u64.wrap (zs.length:Int)=(zs.length:Int):=u64_wrap_id _ (by omega) (by omega);go_wp2_with ((with_reducible show wpList _ _ _ (Oper.mk _ (Op.load 26 _) _ _ _ _::_) _ _);refine wpList_load_row rfl 26 _ rfl Z rfl _ _ _ _ ak Tryz.underlying26 rfl (by kernel_rfl) ?_)
 refine(aW.out wA).mono ?_;rintro e w3 ⟨rfl,aS⟩;have bn:=hid (qg ak aS);have br:=hid (bb.trans (aS.mono (show Z≤wA.heap.size by have:=(Ai ak).1;omega)));have b4:Z<w3.heap.size:=(Ai bn.out).1;obtain⟨I,b3⟩:=Ex w3.heap.size;have cf:Z<I:=by omega
 clear aS ak bb aW b4;go_wp2_with fail
 go_loopw [9,10,11] (fun s u i wr=> ∃j:Nat,i= .int .u64 (j:Nat)∧j≤L.length∧CallsO w0 I wr s (t.rowC kz z1 z2 0 false L j)∧ListO I wr u (t.rowZ kz z1 z2 0 false L j)∧Below I w3 wr) (fun _ _ i _=>L.length - (intOf i).toNat)
 case atStart=>exact⟨0,rfl,Nat.zero_le _,CallsO.nil _ _ _,ListO.nil _ _,Below.refl _ _⟩
 case round=>
  obtain⟨j,rfl,hj,U,ho,Y⟩:=hrel;by_cases bP:j<L.length
  case pos=>
   have ce:(j:Int)<L.length:=by omega
   have cm:(L.length:Int)≤16777216:=by omega
   obtain⟨aw,a,b,aJ,bM,cb,a4⟩:=b6.out j bP;have af:=hid (fun W:World=>bY.out W j);have bl:t.spotR zs.length ((0:Nat):Int) j=⟨0,j,a,b,decide (j+1=L.length),false⟩:=by unfold TreeV.spotR;rw[if_pos ⟨HE.out,aw⟩];exact aJ
   have a3:t.spotE zs.length ((0:Nat):Int) j=0:=by unfold TreeV.spotE;rw[if_neg (by simp[HE.out]),if_pos aw]
   rw[bl,a3]at af;unfold SpotV.val at af;simp only at af
   have bw:=hid aw;have ar:=hid aJ;have bU:=hid a4;obtain⟨O,aV⟩: ∃q:Bool,decide (j+1=L.length)=q:=⟨_,rfl⟩;rw[aV]at af ar;have bu:=hid aV;have aF:wr.heap[Z]? =some (.cells #[.int .i64 t.k,.int .i64 t.d,.int .i64 t.f,.int .i64 t.p,.int .u32 t.l,.int .i64 t.i,.slice t.ka t.kl t.kc,.slice t.sa t.sl t.sc,.slice t.pa t.pl t.pc] 26 (0,0)):=qg bn.out (b3▸Y);have bF:=hid (show Below w0.heap.size w0 wr from HW.out.trans ((br.out.trans (Y.mono (by omega))).mono bQ));have aI:I≤wr.heap.size:=by have:=Y.size;omega
   have ch:IntKind.u64.wrap ((j:Int)+1)=((j+1:Nat):Int):=u64_wrap_id _ (by omega) (by omega);have bc:=hid U;have HO:=hid ho;have HB:=hid Y;clear aw aJ a4 aV bl a3 U ho Y;go_wp2_with ((with_reducible show wpList _ _ _ (Oper.mk _ (Op.load 26 _) _ _ _ _::_) _ _);refine wpList_load_row rfl 26 _ rfl Z rfl _ _ _ _ aF Tryz.underlying26 rfl (by kernel_rfl) ?_)
   refine(af.out wr).mono ?_;rintro e w4 ⟨rfl,aA⟩;have bh:=hid aA;have bG:=aA.size;have bg:=qg aF aA;clear aA;go_upto_region 9 with(first|((with_reducible show wpList _ _ _ (Oper.mk none (Op.store 96 _ _) _ _ _ _::_) _ _);refine wpList_store_row rfl 96 _ _ rfl w4.heap.size #[.int .i64 0,.int .u64 (j:Nat),.int .u64 (a:Nat),.int .u64 (b:Nat),.bool O,.bool false] rfl rfl 96 _ (Wn _ _) (by kernel_rfl) rfl (by simp[Value.oneCell']) ?_))
   refine qm ?_;intro V hV;obtain⟨bs,aC⟩:=Ex w4.heap.size;have ax:V.heap[bs]? =some (.cells #[.int .i64 0,.int .u64 (j:Nat),.int .u64 (a:Nat),.int .u64 (b:Nat),.bool O,.bool false] 96 (0,0)):=by rw[hV,←aC];exact setRow_heap _ _ _ _ _ _ (Wn _ _)
   have aP:Below bs w4 V:=by rw[hV,←aC];exact below_setRow (Br.alloc Nl _) Nl _
   rw[aC];have ba:V.heap[Z]? =some (.cells #[.int .i64 t.k,.int .i64 t.d,.int .i64 t.f,.int .i64 t.p,.int .u32 t.l,.int .i64 t.i,.slice t.ka t.kl t.kc,.slice t.sa t.sl t.sc,.slice t.pa t.pl t.pc] 26 (0,0)):=(aP.block Z (by omega)).trans bg;have av:Below wr.heap.size wr V:=bh.out.trans (aP.mono (by omega));have ai:=hid av;have ad:=hid (bF.out.trans (av.mono (show w0.heap.size≤wr.heap.size by omega)));have bD:w0.heap.size≤V.heap.size:=ad.out.size;have cp:bs<V.heap.size:=(Ai ax).1;obtain⟨A,G⟩: ∃A,(if J=a then va else va.map (·.add a))=A:=⟨_,rfl⟩;have bx:Hold w0 (.slice A (b - a) (J - a)) (qQ L j):=by rw[bU.out,←G];exact qhK HV.out bM cb
   have bi:=hid bx;have bd:=hid G;have aE:=hid (fun(W:World) (Y:Below w0.heap.size w0 W)=>ZR t zs.length HE.out HT.out.l (by omega) z1 z2 0 j (by omega) (by omega) bw.out _ ar.out A (b - a) (J - a) W (HT.out.s.below Y) (HT.out.p.below Y));unfold TreeV.val at aE;clear bx G av aP hV bh bg aF bG aC;refine qD (n:=11) (w0:=V) (B:=V.heap.size) [.v 38 (.agg #[.int .i64 t.k,.int .i64 t.d,.int .i64 t.f,.int .i64 t.p,.int .u32 t.l,.int .i64 t.i,.slice t.ka t.kl t.kc,.slice t.sa t.sl t.sc,.slice t.pa t.pl t.pc]),.v 39 (.int .u64 (zs.length:Nat)),.v 40 (.int .u64 (j:Nat)),.v 41 (.slice va zs.length J),.v 42 (.pointer (some ⟨bs,2,none⟩)),.v 43 (.int .u64 (a:Nat)),.v 44 (.pointer (some ⟨bs,3,none⟩)),.v 45 (.int .u64 (b:Nat)),.v 46 (.slice A (b - a) (J - a)),.p 47 (fun u W=> ∃bv,u= .agg (Yb t.k bv (qdi 0 (.slice t.ka t.kl t.kc)) O (t.outN false) (.slice A (b - a) (J - a)))∧W.ownsRow V.heap.size 5 1 bv (mB t.big) ((t.blk z1 z2 0 j).map qt)),.p 14 (fun u W=> ∃p,u= .pointer (some ⟨p,0,none⟩)∧V.heap.size≤p∧W.heap[p]? =some (.cells #[.int .i64 0,.slice none 0 0,.slice none 0 0,.bool false,.int .i64 0,.slice none 0 0] 73 (0,0)))] (by exact⟨(fun _ _ _ h Y=>by obtain⟨r,e,h⟩:=h;exact⟨r,e,qk h (fun g _ hg=>Y.block g hg)⟩),(fun _ _ _ h Y=>by obtain⟨p,e,h3,h4⟩:=h;exact⟨p,e,h3,qg h4 Y⟩),trivial⟩) Br.drew Nl ?_ ?_
   ·repeat' (with_reducible first|exact qz|refine qx ?_ ?_)
    ·intro AA x W G hW aa o D K hK;have a2:=G.2 2 (by decide);conv at a2=>rhs;whnf
     clear o G;exact wp_load_row 26 _ rfl Z a2 _ _ _ _ (qg ba hW) Tryz.underlying26 rfl (by kernel_rfl) (hK _ _ Br rfl)
    all_goals try
     intro AA x W G hW aa o D K hK;have a1:=G.2 1 (by decide);conv at a1=>rhs;whnf
     have a6:=G.2 6 (by decide);conv at a6=>rhs;whnf
     have bO:=G.2 11 (by decide);conv at bO=>rhs;whnf
     have ca:=G.2 12 (by decide);conv at ca=>rhs;whnf
     simp only[QN,QV]at D;clear o G;first
     | go_simp
       exact hK _ _ BR rfl
     | have y0:W.cell? ⟨bs,2,none⟩=some (.int .u64 (a:Nat)):=qd (qg ax hW) 2
       have y1:W.cell? ⟨bs,3,none⟩=some (.int .u64 (b:Nat)):=qd (qg ax hW) 3;have y2:bs<W.heap.size:=by omega
       go_simp
       exact hK _ _ BR rfl
    ·intro AA x W G hW aa o _ K hK;have ck:=gv G o 3 41;have cA:=gv G o 5 43;have cl:=gv G o 7 45;clear o G;have y5:b≤J:=by omega
     go_simp
     rw[bd.out];exact hK _ _ BR rfl
    ·intro AA x W G hW aa o _ K hK;have cw:=gv G o 0 38;have cz:=gv G o 1 39;have cr:=gv G o 2 40;have cx:=gv G o 8 46;clear o G;go_simp
     refine(aE.out W (ad.out.trans (hW.mono (by omega)))).mono ?_;rintro e w5 ⟨bv,rfl,al,ac⟩;exact hK _ _ ac ⟨bv,rfl,ownsRow_le al aa⟩
    ·intro AA x W G hW aa o _ K hK;clear o G;go_simp
     exact hK _ _ (Br.alloc Nl _) ⟨W.heap.size,rfl,aa,Wn W _⟩
   intro x W hW aa bA;obtain⟨ae,bt, -⟩:=bA;change (fun u W=> ∃bv,u= .agg (Yb t.k bv (qdi 0 (.slice t.ka t.kl t.kc)) O (t.outN false) (.slice A (b - a) (J - a)))∧W.ownsRow V.heap.size 5 1 bv (mB t.big) ((t.blk z1 z2 0 j).map qt)) (x 47) W at ae
   change (fun u W=> ∃p,u= .pointer (some ⟨p,0,none⟩)∧V.heap.size≤p∧W.heap[p]? =some (.cells #[.int .i64 0,.slice none 0 0,.slice none 0 0,.bool false,.int .i64 0,.slice none 0 0] 73 (0,0))) (x 14) W at bt
   obtain⟨bv,ae,al⟩:=ae;obtain⟨p,ep,bT,aD⟩:=bt;obtain⟨a5,n5,k5,rfl⟩:=qu al;obtain⟨bo,a6,n6,k6,e6⟩:=qix HT.out 0 (ad.out.trans (hW.mono (by omega))) I;rw[e6]at ae bo;refine qp ?_;simp only[QA,Act.put,Ls,ep,ae];refine wpList_store_row rfl 73 _ _ rfl p (Yb t.k (.slice a5 n5 k5) (.slice a6 n6 k6) O (t.outN false) (.slice A (b - a) (J - a))) rfl rfl 73 _ aD (by kernel_rfl) rfl (by simp[Value.oneCell',Yb]) ?_;refine qv ?_;have az:=hid (setRow_heap W p _ (Yb t.k (.slice a5 n5 k5) (.slice a6 n6 k6) O (t.outN false) (.slice A (b - a) (J - a))) _ _ aD);have ao:=hid (below_setRow hW bT (Yb t.k (.slice a5 n5 k5) (.slice a6 n6 k6) O (t.outN false) (.slice A (b - a) (J - a))));have aB:=hid (yo (cs:=Yb t.k (.slice a5 n5 k5) (.slice a6 n6 k6) O (t.outN false) (.slice A (b - a) (J - a))) al aD (by decide));generalize W.setRow p (Yb t.k (.slice a5 n5 k5) (.slice a6 n6 k6) O (t.outN false) (.slice A (b - a) (J - a)))=X at az ao aB⊢;clear hW aa aD al bo ep ae aE;have cC:=ao.out.size;have au:=hid (ad.out.trans (ao.out.mono bD));have ah:=hid (ai.out.trans (ao.out.mono (show wr.heap.size≤V.heap.size by have:=ai.out.size;omega)));have bp:KeepH w0 I X (.slice a6 n6 k6) (Z1 0 kz):=by rw[←e6];exact(qix HT.out 0 au.out I).1
   have aN:=hid bp;have aU:=hid (show KeepH w0 I X (.slice A (b - a) (J - a)) (qQ L j) from .inr ⟨bi.out,au.out⟩);clear bp;unfold Yb at az;go_wp2_with ((with_reducible show wpList _ _ _ (Oper.mk _ (Op.load 73 _) _ _ _ _::_) _ _);refine wpList_load_row rfl 73 _ rfl p rfl _ _ _ _ az.out Tryz.underlying73 rfl (by kernel_rfl) ?_)
   refine(qdQ HT.out (row:=0) (at_:=j) (by omega) (by omega) O false (qQ L j) (.slice A (b - a) (J - a)) (.slice a5 n5 k5) (.slice a6 n6 k6) X _ aB.out aN.out.hold aU.out.hold (by have:=bS.out j;omega)).mono ?_;rintro e w5 ⟨u,rfl,hO,ac⟩;obtain⟨a7,k7,rfl, -, -⟩:=hO.hold.slice;have cq:=ac.size;have aQ:I≤X.heap.size:=by have:=ah.out.size;omega
   have aO:=hid (KB.of_below ac aQ);have bj:=qg az.out ac;have bR:=hid (hO.le aQ);have ap:=hid (ah.out.trans (ac.mono (show wr.heap.size≤X.heap.size from ah.out.size)));have b9:=hid (show CallAt w0 I w5 (t.callS kz z1 z2 0 j O false (qQ L j)) [.int .i64 t.k,.slice a5 n5 k5,.slice a6 n6 k6,.bool O,.int .i64 (t.outN false),.slice A (b - a) (J - a)] from
    ⟨_,_,_,_,_,_,_,_,_,rfl,⟨(HT.out.okD (row:=0) (at_:=j) (by omega) (by omega)).2.2.1,(Y6 (ownsRow_le aB.out (show I≤V.heap.size by have:=ai.out.size;omega))).kb aO.out⟩,aN.out.kb (by omega) aO.out,aU.out.kb (by omega) aO.out⟩)
   obtain⟨cs,ag,U,aL⟩:=bc.out;obtain⟨vs,an,aR⟩:=HO.out;rw[qZ]at ag U aL;rw[qK]at an aR;have b7:vs.length=j:=by have:=an.1;omega
   have aT:=hid (KB.of_below ap.out aI);have bW:=hid (fun i hi=>(aL i hi).kb (show w0.heap.size≤I by omega) aT.out);have bI:=hid (fun i hi=>(aR i hi).kb aT.out);have aM:=hid (qk U (fun g _ g2=>ap.out.block g g2));have aH:=hid (qk an (fun g _ g2=>ap.out.block g g2));obtain⟨a8,n8,k8,rfl⟩:=yM U;obtain⟨a9,n9,k9,rfl⟩:=qu an;have bf:t.node kz z1 z2 0 j O false (qQ L j)=t.node kz z1 z2 0 j (decide (j+1=L.length)) false (qQ L j):=by rw[bu.out]
   have bm:t.callS kz z1 z2 0 j O false (qQ L j)=t.callS kz z1 z2 0 j (decide (j+1=L.length)) false (qQ L j):=by rw[bu.out]
   have bK:=hid bf;have bJ:=hid bm;generalize t.node kz z1 z2 0 j O false (qQ L j)=N at*;generalize t.callS kz z1 z2 0 j O false (qQ L j)=C at*;have cj:=ap.out.size;have cy:p<w5.heap.size:=(Ai bj).1;clear ac hO bf bm U aL an aR aN aU aB ao bc HO ah au ai ad bi bd ar bw af ax ba;go_upto_region 12 with(first|((with_reducible show wpList _ _ _ (Oper.mk _ (Op.load 73 _) _ _ _ _::_) _ _);refine wpList_load_row rfl 73 _ rfl p rfl _ _ _ _ bj Tryz.underlying73 rfl (by kernel_rfl) ?_)|((with_reducible show wpList _ _ _ (Oper.mk _ (Op.buildSlice _ _ _) _ _ _ _::_) _ _);refine jG rfl _ rfl _ _ _ _ _ _ rfl ?_)|(at_builtin;refine yI rfl _ _ _ rfl I 73 (by decide) ic _ 6 96 Tryz.underlying111 bZ b8 bX bH rfl (by decide) (.slice a8 n8 k8) j cs.flatten [.int .i64 t.k,.slice a5 n5 k5,.slice a6 n6 k6,.bool O,.int .i64 (t.outN false),.slice A (b - a) (J - a)] _ rfl aM.out rfl rfl (by simp[Value.oneCell']) (by unfold maxLen;omega) (by omega) (by omega) ?_;intro v' w' ab aj aG))
   have aK:=hid (QZ aH.out (yO aM.out aH.out (by decide) aG));have bN:=hid (show CallsO w0 I w' v' (t.rowC kz z1 z2 0 false L (j+1)) from by
    rw[Zy,←bJ.out];refine CallsO.snoc (w:=w5) (cs:=cs) (fun i hi=>?_) (by rw[qZ];exact ag) b9.out (by rw[qZ];exact ab) (by omega) aj;rw[qZ]at hi;exact bW.out i hi)
   have aX:=hid aj;have ct:=aj.size;obtain⟨cu,cB,cn,rfl⟩:=yM ab;have bC:=hid ab;clear ab aj aG;go_wp2_with (first|((with_reducible show wpList _ _ _ (Oper.mk _ (Op.buildSlice _ _ _) _ _ _ _::_) _ _);refine zS rfl _ rfl _ _ _ rfl ?_)|(at_builtin;refine yI rfl _ _ _ rfl I 24 (by decide) ib (.slice none 0 0) 1 24 Tryz.underlying67 bE bV cc b5 rfl (by decide) (.slice a9 n9 k9) j vs [.slice a7 N.length k7] _ rfl aK.out rfl rfl (by simp[Value.oneCell']) (by unfold maxLen;omega) (by omega) (by omega) ?_;intro v7 w7 aY aq bz))
   refine⟨⟨j+1,rfl,by omega,?_,?_,(HB.out.trans (ap.out.mono aI)).trans ((aX.out.trans aq).below)⟩,by simp[intOf];omega⟩
   ·exact bN.out.kb (by omega) aq (yO aK.out bC.out (by decide) bz)
   ·rw[Zw,←bK.out];refine ListO.snoc (w:=w') (vs:=vs) (x:= .slice a7 N.length k7) (fun i hi=>?_) (by rw[qK];exact b7) (bR.out.kb aX.out) (by rw[qK];exact aY) aq;rw[qK]at hi;exact(bI.out i hi).kb aX.out
  obtain rfl:j=L.length:=by omega
  have HO:=hid (ho.le (show Z≤I by omega));have HC:=hid (U.le (show Z≤I by omega));have HB:=hid (br.out.trans (Y.mono (show Z≤I by omega)));obtain⟨cs, -,aZ, -⟩:=U;obtain⟨vs,bq, -⟩:=ho;obtain⟨a8,n8,k8,rfl⟩:=yM aZ;obtain⟨a9,n9,k9,rfl⟩:=qu bq;clear Y aZ bq;go_wp2
  go_ret2
  exact⟨_,_,rfl,by rw[am];exact HC.out,by rw[am];exact HO.out,by rw[am];exact HB.out⟩
theorem qfo (t:TreeV)(kz z1 z2 zs:List Int)(v:Value)(w0 w:World)(h:TreeOk t kz z1 z2 w0)(hv:Hold w0 v zs)(hw:Below w0.heap.size w0 w)(he:t.err zs.length=0)(hn:zs.length≤35184372088832)(aO:lvs zs.length t.ln≤4194304):
  Calls Tryz.prog 84 #[t.val,v] w fun e w'=> ∃u,e= .returned (.tuple #[u,.int .i64 0])∧LevO w0 w.heap.size w' u (t.allC kz z1 z2 zs ((t.rowsOf zs.length).length - 1+1))∧Below w.heap.size w w':=by
 obtain⟨o,X⟩:=Ex w.heap.size;have av:w0.heap.size≤o:=by have:=hw.size;omega
 obtain⟨il,aU,aD,aT,aM⟩:=info_parts Ja;have aj:=fun W:World=>qak t W
 simp only[h.v]at aj;have aP:=hid aj;have ap:=yH h.v h.l kz z1 z2 zs;have ag:=Zl h.v h.l kz z1 z2 zs;have aE:=hid (fun(W:World) (hb:Below o w W)=>JA t kz z1 z2 zs v w0 W h he hv (hw.trans (hb.mono av)) hn aO);have aS:=hid (fun(W:World) (x:Value) (hx:ListH W x (t.leafZ kz z1 z2 zs)) (hb:Below o w W)=>qbI t kz z1 z2 zs.length (t.leafZ kz z1 z2 zs) x w0 W h he hx (hw.trans (hb.mono av)) ag ap.2.2 (by rw[ag];omega) (by omega));have aK:=hid (show t.rowZ kz z1 z2 0 false (yp t.ln zs) (yp t.ln zs).length=t.leafZ kz z1 z2 zs from rfl);have hR:=qM he;have aV:t.pn≤255:=by have:=(qq h.v).2.2.2.2.2.2.2.1;unfold TreeV.pn;omega
 have aC:=hR.len;have am:=hR.most;have aN:=hid (t.lvls_all kz z1 z2 zs ((t.rowsOf zs.length).length - 1));have aF:=t.lvlsC_length kz z1 z2 (t.leafZ kz z1 z2 zs) ((t.rowsOf zs.length).length - 1);generalize t.allC kz z1 z2 zs ((t.rowsOf zs.length).length - 1+1)=AC at*;generalize t.rowZ kz z1 z2 0 false (yp t.ln zs) (yp t.ln zs).length=RZ at*;generalize t.rowC kz z1 z2 0 false (yp t.ln zs) (yp t.ln zs).length=RC at*;generalize t.lvlsC kz z1 z2 (t.leafZ kz z1 z2 zs) ((t.rowsOf zs.length).length - 1)=LC at*;generalize qQ (t.lvlZ kz z1 z2 (t.leafZ kz z1 z2 zs) ((t.rowsOf zs.length).length - 1)) 0=Y at*;have a4:1≤LC.length:=by omega
 have a3:LC.length≤256:=by omega
 obtain⟨va,vc,rfl,aY,a5⟩:=hv.slice;have bb:IntKind.u64.wrap (zs.length:Int)=(zs.length:Int):=u64_wrap_id _ (by omega) (by omega);have au:Below o w (w.alloc (.cells #[.int .i64 t.k,.int .i64 t.d,.int .i64 t.f,.int .i64 t.p,.int .u32 t.l,.int .i64 t.i,.slice t.ka t.kl t.kc,.slice t.sa t.sl t.sc,.slice t.pa t.pl t.pc] 26)):=by rw[←X];exact Br.alloc Nl _
 have D:=Wn w (.cells #[.int .i64 t.k,.int .i64 t.d,.int .i64 t.f,.int .i64 t.p,.int .u32 t.l,.int .i64 t.i,.slice t.ka t.kl t.kc,.slice t.sa t.sl t.sc,.slice t.pa t.pl t.pc] 26);rw[X]at D;clear h hv aj he ap ag hR aV aC am aF hw;unfold TreeV.val at*;go_enter Tryz.func84,Tryz.ntmps84
 go_upto_region 1 with(fail)
 generalize w.alloc (.cells #[.int .i64 t.k,.int .i64 t.d,.int .i64 t.f,.int .i64 t.p,.int .u32 t.l,.int .i64 t.i,.slice t.ka t.kl t.kc,.slice t.sa t.sl t.sc,.slice t.pa t.pl t.pc] 26)=wA at*;go_wp2_with ((with_reducible show wpList _ _ _ (Oper.mk _ (Op.load 26 _) _ _ _ _::_) _ _);refine wpList_load_row rfl 26 _ rfl o rfl _ _ _ _ D Tryz.underlying26 rfl (by kernel_rfl) ?_)
 refine(aP.out wA).mono ?_;rintro e w2 ⟨rfl,ak⟩;have U:=qg D ak;have ao:=au.trans (ak.mono (by have:=(Ai D).1;omega));have az:=hid ao;clear D au ak ao;go_wp2_with ((with_reducible show wpList _ _ _ (Oper.mk _ (Op.load 26 _) _ _ _ _::_) _ _);refine wpList_load_row rfl 26 _ rfl o rfl _ _ _ _ U Tryz.underlying26 rfl (by kernel_rfl) ?_)
 refine(aE.out w2 az.out).mono ?_;rintro e w3 ⟨cv,u,rfl,ar,hu,V⟩;have af:=qg U V;have be:=(Ai U).1;have ay:=hid (az.out.trans (V.mono (by omega)));have HU:=hid hu.hold;have aH:=hid (ar.le (show o≤w2.heap.size by omega));have bd:=V.size;clear V U hu;go_wp2_with ((with_reducible show wpList _ _ _ (Oper.mk _ (Op.load 26 _) _ _ _ _::_) _ _);refine wpList_load_row rfl 26 _ rfl o rfl _ _ _ _ af Tryz.underlying26 rfl (by kernel_rfl) ?_)
 refine(aS.out w3 _ (by rw[←aK.out];exact HU.out) ay.out).mono ?_;rintro e q ⟨bc,y,rfl,aq,hy,ab⟩;have aZ:=(Ai af).1;have aL:=hid (ay.out.trans (ab.mono (by omega)));have aQ:=hid (aq.le (show o≤w3.heap.size by omega));have aA:=hid (aH.out.below (by omega) ab);have a7:=ab.size;obtain⟨cs, -,an, -⟩:=ar;obtain⟨I,G,J,rfl⟩:=yM an;clear ab aq hy af an;have Z:Below q.heap.size q (q.alloc (.cells #[.slice I G J] 111)):=Br.alloc Nl _;have aw:=Wn q (.cells #[.slice I G J] 111);have O:(q.alloc (.cells #[.slice I G J] 111)).ownsRow o 111 1 (.slice (some ⟨q.heap.size,0,none⟩) 1 1) 1 [.slice I G J]:=⟨rfl,.inr ⟨_,1,_,rfl,by omega,aw,by decide,by decide,rfl,rfl⟩⟩;obtain⟨ws,aa,ah⟩:=aQ.out.below (by omega) Z;have aR:ws.length=LC.length:=by have:=aa.1;simpa using this
 obtain⟨ae,ad⟩:=Ex q.heap.size;rw[show Value.slice (some ⟨q.heap.size,0,none⟩) 1 1=Value.slice (some ⟨ae,0,none⟩) 1 1 by rw[ad]]at O;have ac:=hid O;have aG:=hid aa;have aI:=hid ah;have aJ:=hid (aA.out.below (by omega) Z);have aX:=hid (aL.out.trans (Z.mono (by omega)));obtain⟨a9,n9,k9,rfl⟩:=qu aa;have ax: ∀u∈ws,u.oneCell'=true:=fun u hu=>by
  obtain⟨i,hi,rfl⟩:=List.mem_iff_getElem.1 hu;have:=ah i (by omega)
  rw[Lg,Lg,List.getElem?_eq_getElem hi]at this;exact CallsO.one this
 have aW:=hid ax;have ba:(q.alloc (.cells #[.slice I G J] 111)).heap.size=ae+1:=by rw[←ad];simp
 clear O aa ah ax Z aw;go_upto_region 7 with((with_reducible show wpList _ _ _ (Oper.mk _ (Op.buildSlice _ _ _) _ _ _ _::_) _ _);refine jF rfl _ rfl _ _ _ rfl ?_)
 generalize q.alloc (.cells #[.slice I G J] 111)=w5 at*;go_wp2_with (at_builtin;refine qai rfl _ _ _ rfl o 111 (by decide) il (.slice none 0 0) 1 24 Tryz.underlying114 aU aD aT aM rfl (by decide) (.slice (some ⟨ae,0,none⟩) 1 1) 1 [.slice I G J] rfl ac.out o (.slice a9 n9 k9) LC.length ws rfl aG.out (by omega) aW.out (by unfold maxLen;omega) (by omega) (by omega) ?_;intro v' w' al ai aB a6)
 go_ret2
 refine⟨_,rfl,?_,by rw[X];exact aX.out.trans ai.below⟩;rw[←aN.out,X];refine qh7 (S:=[RC]) (vs:=[.slice I G J]) ac.out (fun i hi=>?_) aR aI.out al (by omega) ai aB;obtain rfl:i=0:=by simp at hi;omega
 exact aJ.out
theorem qbW {t:TreeV}{kz z1 z2:List Int}{w:World}(h:TreeOk t kz z1 z2 w){row at_:Nat}(hr:row≤255)(V:at_<281474976710656)(o q:Bool)(ds:List Int)(G D I:Value)(W:World)
  (X:Hold W D (t.blk z1 z2 row at_)) (J:Hold W I (Z1 row kz)) (U:Hold W G ds) (hl:ds.length≤140737488355200):
  Calls Tryz.prog 85 #[.agg #[.int .i64 t.k,D,I,.bool o,.int .i64 (t.outN q),G]] W fun e w'=> ∃u,e= .returned (.tuple #[u,.int .i64 0])∧OwnB W.heap.size w' u (t.node kz z1 z2 row at_ o q ds)∧Below W.heap.size W w':=by
 obtain⟨h1,O,h3,Z⟩:=h.okD hr V;rw[←yQ h.v];have h5:=Z q;refine(j7 t.big _ _ ds o _ D I G W X J U (by omega) h1 O (by omega)).mono ?_;rintro e w' ⟨⟨u,rfl,Y⟩,hb⟩
 exact⟨u,rfl,⟨yG t kz z1 z2 row at_ o q ds,Y⟩,hb⟩
theorem qaR {t:TreeV}(h:t.validE=0)(q:0≤t.l∧t.l≤4294967295)(kz z1 z2 zs:List Int)(r:Nat):(t.dataR kz z1 z2 zs r).length≤lvs zs.length t.ln∧ ∀i,(qQ (t.dataR kz z1 z2 zs r) i).length≤zs.length+64*lvs zs.length t.ln:=by
 have G:=yH h q kz z1 z2 zs;have I:=Zl h q kz z1 z2 zs;have o:1≤t.ln:=by
  have:=(qq h).2.2.2.2.2.2.2.2.1
  unfold TreeV.ln;omega
 cases r with
 | zero=>
  exact⟨by show(yp t.ln zs).length≤_;rw[zJ zs o];exact Nat.le_refl _,fun i=>by have:=qbC (n:=t.ln) zs i;show(qQ (yp t.ln zs) i).length≤_;omega⟩
 | succ r=>
  have D:=QM h kz z1 z2 G.1 G.2.2 r;have U:=YO h (r+1) D.1;refine⟨?_,fun i=>?_⟩
  ·show(t.upZ (r+1) _).length≤_;omega
  ·have J:=zk t (r+1) (t.lvlZ kz z1 z2 (t.leafZ kz z1 z2 zs) r) i;have O:=yZ D.2.2;show(qQ (t.upZ (r+1) _) i).length≤_
   omega
theorem qeY (t:TreeV)(kz z1 z2 zs:List Int)(v:Value)(w:World)(h:TreeOk t kz z1 z2 w)(hv:Hold w v zs)(he:t.err zs.length=0)(hn:zs.length≤35184372088832)(a5:lvs zs.length t.ln≤4194304):
  Calls Tryz.prog 50 #[t.val,v] w fun e w'=> ∃u vs,e= .returned (.tuple #[u,.int .i64 0])∧RowsV w.heap.size w' u vs ((t.allC kz z1 z2 zs ((t.rowsOf zs.length).length - 1+1)).map (·.map t.outC))∧Below w.heap.size w w':=by
 obtain⟨b0,Z⟩:=Ex w.heap.size;obtain⟨il,bd,aM,bb,a4⟩:=info_parts qbu;have bg:=hid (fun(W:World) (q:Below b0 w W)=>qfo t kz z1 z2 zs v w W h hv (Z▸q) he hn a5);have hR:=qM he;have be:t.pn≤255:=by have:=(qq h.v).2.2.2.2.2.2.2.1;unfold TreeV.pn;omega
 have aj:=hR.len;have ap:=hR.most;have aB:=t.allC_length kz z1 z2 zs ((t.rowsOf zs.length).length - 1+1);have aS:=hid (show ∀i,i<(t.allC kz z1 z2 zs ((t.rowsOf zs.length).length - 1+1)).length→((t.allC kz z1 z2 zs ((t.rowsOf zs.length).length - 1+1)).getD i []).length≤8388608∧ ∀k,k<((t.allC kz z1 z2 zs ((t.rowsOf zs.length).length - 1+1)).getD i []).length→ ∀s,((t.allC kz z1 z2 zs ((t.rowsOf zs.length).length - 1+1)).getD i []).getD k .zero=s→ ∀(W:World) (bv kv dv:Value),Hold W bv s.bs→Hold W kv s.kz→Hold W dv s.ds→
   Calls Tryz.prog 85 #[.agg #[.int .i64 s.k,bv,kv,.bool s.la,.int .i64 s.o,dv]] W fun e w'=> ∃u,e= .returned (.tuple #[u,.int .i64 0])∧OwnB W.heap.size w' u (t.outC s)∧Below W.heap.size W w' from fun i hi=>by
  rw[aB]at hi;rw[jS t kz z1 z2 zs hi];have aj:=qae h.v h.l kz z1 z2 zs i;have aZ:=qaR h.v h.l kz z1 z2 zs i;have bl:(t.callsR kz z1 z2 zs i).length≤4194304:=by unfold TreeV.callsR;rw[qZ];omega
  refine⟨by omega,fun k hk s hs W bv kv dv p1 p2 p3=>?_⟩;have aT:k<(t.dataR kz z1 z2 zs i).length:=by unfold TreeV.callsR at hk;rwa[qZ]at hk
  rw[qaS t kz z1 z2 zs aT]at hs;subst hs;exact qbW h (by omega) (by omega) _ _ _ dv bv kv W p1 p2 p3 (by have:=aZ.2 k;show(qQ _ _).length≤_;omega))
 generalize t.allC kz z1 z2 zs ((t.rowsOf zs.length).length - 1+1)=D at*;have bq:D.length≤256:=by omega
 have br:1≤D.length:=by omega
 have ah:Below b0 w (w.alloc (.cells #[.int .i64 t.k,.int .i64 t.d,.int .i64 t.f,.int .i64 t.p,.int .u32 t.l,.int .i64 t.i,.slice t.ka t.kl t.kc,.slice t.sa t.sl t.sc,.slice t.pa t.pl t.pc] 26)):=by rw[←Z];exact Br.alloc Nl _
 have ac:=Wn w (.cells #[.int .i64 t.k,.int .i64 t.d,.int .i64 t.f,.int .i64 t.p,.int .u32 t.l,.int .i64 t.i,.slice t.ka t.kl t.kc,.slice t.sa t.sl t.sc,.slice t.pa t.pl t.pc] 26);rw[Z]at ac;clear h hv hR be aj ap aB;unfold TreeV.val at*;go_enter Tryz.func50,Tryz.ntmps50
 go_upto_region 1 with(fail)
 generalize w.alloc (.cells #[.int .i64 t.k,.int .i64 t.d,.int .i64 t.f,.int .i64 t.p,.int .u32 t.l,.int .i64 t.i,.slice t.ka t.kl t.kc,.slice t.sa t.sl t.sc,.slice t.pa t.pl t.pc] 26)=wA at*;go_wp2_with ((with_reducible show wpList _ _ _ (Oper.mk _ (Op.load 26 _) _ _ _ _::_) _ _);refine wpList_load_row rfl 26 _ rfl b0 rfl _ _ _ _ ac Tryz.underlying26 rfl (by kernel_rfl) ?_)
 refine(bg.out wA ah).mono ?_;rintro e w2 ⟨u,rfl,hl,an⟩;have bc:b0<wA.heap.size:=(Ai ac).1;have bk:=hid (ah.trans (an.mono (show b0≤wA.heap.size by omega)));obtain⟨vs,al,aA⟩:=hl;obtain⟨g,bF,rfl, -,bt,aD⟩:=qcO al (by omega);have bE:vs.length=D.length:=by have:=al.1;simpa using this
 have aQ:=hid aD;have aP:=hid (show ∀i,i<D.length→CallsO w b0 w2 (vs.getD i undef) (D.getD i []) from fun i hi=>(aA i hi).le (by omega));obtain⟨O,a6⟩:=Ex w2.heap.size;have bp:b0<O:=by have:=an.size;omega
 have bo:(D.length:Int)≤256:=by omega
 clear al aA aD an ac ah bc;go_wp2_with fail
 go_loopw [8,9] (fun o i wr=> ∃j:Nat,i= .int .i64 (j:Nat)∧j≤D.length∧(∃us,RowsV O wr o us ((D.take j).map (·.map t.outC)))∧Below O w2 wr) (fun _ i _=>D.length - (intOf i).toNat)
 case atStart=>exact⟨0,rfl,Nat.zero_le _,⟨_,RowsV.nil _ _⟩,Below.refl _ _⟩
 case round=>
  obtain⟨j,rfl,hj,⟨us,ho⟩,q⟩:=hrel;rename World=>wq
  by_cases ai:j<D.length
  case pos=>
   have bm:(j:Int)<D.length:=by omega
   have ad:=(aP.out j ai).below (show w.heap.size≤w2.heap.size by omega) (a6▸q);have am:w2.cell? ⟨g,j,none⟩=some (vs.getD j undef):=aQ.out j _ (by rw[Lg,List.getElem?_eq_getElem (by omega)];rfl);obtain⟨x,hx⟩:=Ex (vs.getD j undef);rw[hx]at ad am;obtain⟨bD,aC⟩:=aS.out j ai;have aV:=hid (qcb (fun z:List CallS=>z.map t.outC) [] ai);generalize D.getD j []=S at*;obtain⟨a8,c8,rfl⟩:=ad.form;have aW:wq.cell? ⟨g,j,none⟩=some (.slice a8 S.length c8):=(q.cell (p:=⟨g,j,none⟩) (show g<O by omega)).trans am;have bz:O≤wq.heap.size:=by have:=q.size;omega
   have aY:=hid aC;have bi:=hid ad;have HO:=hid ho;have HB:=hid q;obtain⟨bM,aw⟩:=Ex wq.heap.size;have bx:(S.length:Int)≤8388608:=by omega
   obtain⟨a7,n7,c7,rfl⟩:=qu ho.1;clear ad am hx aC ho q;go_wp2_with fail
   go_loopw [10,11] (fun r k wr=> ∃m:Nat,k= .int .i64 (m:Nat)∧m≤S.length∧ListO bM wr r ((S.take m).map t.outC)∧Below bM wq wr) (fun _ k _=>S.length - (intOf k).toNat)
   case atStart=>exact⟨0,rfl,Nat.zero_le _,ListO.nil _ _,Below.refl _ _⟩
   case round=>
    obtain⟨m,rfl,hm,U,q⟩:=hrel;have aJ:wr.cell? ⟨g,j,none⟩=some (.slice a8 S.length c8):=(q.cell (p:=⟨g,j,none⟩) (show g<bM by omega)).trans aW;have aa:bM≤wr.heap.size:=by have:=q.size;omega
    have bC:g<wr.heap.size:=by omega
    by_cases af:m<S.length
    case pos=>
     have bn:(m:Int)<S.length:=by omega
     obtain⟨s,hs⟩:=Ex (S.getD m .zero);obtain⟨g1,k1,aH,bv,kv,dv,e1, -,aE,aq,p1,p2,p3⟩:=(bi.out.below (by omega) (aw▸q)).get af hs;simp only[Value.slice.injEq,true_and]at e1;obtain⟨rfl,rfl⟩:=e1;have ar:=hid (qcb t.outC .zero af);rw[hs]at ar;have bj:=hid (aY.out m af s hs wr bv kv dv p1 p2 p3);have aU:=hid aE;have aN:=hid aq;have ba:=hid U;have aO:=hid q;obtain⟨xs,V⟩:=U.row;obtain⟨G,I,J,rfl⟩:=qu V;have bA:(m:Int)+1≤9223372036854775807:=by omega
     have av:((S.take m).map t.outC).length≤8388608:=by rw[List.length_map,List.length_take];omega
     have aL:=hid av;clear hs aE aq p1 p2 p3 U q V av;go_wp2_with ((with_reducible show wpList _ _ _ (Oper.mk _ (Op.load 73 _) _ _ _ _::_) _ _);refine wpList_plain rfl fun K hK=>qX 73 _ rfl g1 (m*6) rfl 73 aH #[.int .i64 s.k,bv,kv,.bool s.la,.int .i64 s.o,dv] (0,0) _ aU.out Tryz.underlying73 rfl (by kernel_rfl) aN.out (hK _ _ ?_))
     refine bj.out.mono ?_;rintro e w5 ⟨u,rfl,hu,ae⟩;have HU:=hid (hu.le aa);have aX:=hid (ba.out.below ae);have bf:=hid (aO.out.trans (ae.mono aa));have bw:=ae.size;obtain⟨u1,u3,rfl, -, -⟩:=hu.hold.slice;generalize t.outC s=ND at*;clear hu ae aJ;go_wp2_with (first|((with_reducible show wpList _ _ _ (Oper.mk _ (Op.buildSlice _ _ _) _ _ _ _::_) _ _);refine zS rfl _ rfl _ _ _ rfl ?_)|(at_builtin;refine qcJ rfl _ _ rfl bM (.slice G I J) ((S.take m).map t.outC) ND (.slice u1 ND.length u3) rfl aX.out HU.out rfl aL.out (by omega) ?_;intro v' w' aG Y ag aI))
     exact⟨⟨m+1,rfl,by omega,by rw[ar.out];exact aG,bf.out.trans Y.below⟩,by simp[intOf];omega⟩
    obtain rfl:m=S.length:=by omega
    rw[List.take_length]at U;obtain⟨xs,V⟩:=U.row;obtain⟨G,I,J,rfl⟩:=qu V;have X:Below wr.heap.size wr (wr.alloc (.cells #[.slice G I J] 67)):=Br.alloc Nl _;have ax:=Wn wr (.cells #[.slice G I J] 67);have ab:(wr.alloc (.cells #[.slice G I J] 67)).ownsRow O 67 1 (.slice (some ⟨wr.heap.size,0,none⟩) 1 1) 1 [.slice G I J]:=⟨rfl,.inr ⟨_,1,_,rfl,by omega,ax,by decide,by decide,rfl,rfl⟩⟩;obtain⟨bK,ak⟩:=Ex wr.heap.size;rw[show Value.slice (some ⟨wr.heap.size,0,none⟩) 1 1=Value.slice (some ⟨bK,0,none⟩) 1 1 by rw[ak]]at ab;have bu:(wr.alloc (.cells #[.slice G I J] 67)).heap.size=bK+1:=by rw[←ak];simp
    have az:=hid ((HO.out.below (aw▸q)).below X);have aR:=hid ((U.below X).le (show O≤bM by omega));have aF:=hid ab;have aK:=hid (HB.out.trans ((q.trans (X.mono aa)).mono (show O≤bM by omega)));have ay:((D.take j).map (·.map t.outC)).length=j:=by rw[List.length_map,List.length_take];omega
    have au:=hid ay;have bh:=hid (show ∀i g,i<((D.take j).map (·.map t.outC)).length→(us.getD i undef).ownBlock=some g→(Value.slice G I J).ownBlock≠some g from fun i g hi hg e=>by
     obtain⟨ys,a3⟩:=(HO.out.2.1 i hi).row;have h1:=Qf a3 g hg;have h2:=Ju V g e;omega)
    clear ab X ax V U q ay;go_wp2_with (first|((with_reducible show wpList _ _ _ (Oper.mk _ (Op.buildSlice _ _ _) _ _ _ _::_) _ _);refine qbR rfl _ rfl _ _ _ rfl ?_;rw[ak];generalize wr.alloc (.cells #[.slice G I J] 67)=wB at*)|(at_builtin;refine qai rfl _ _ _ rfl O 67 (by decide) il (.slice none 0 0) 1 24 Tryz.underlying70 bd aM bb a4 rfl (by decide) (.slice a7 n7 c7) ((D.take j).map (·.map t.outC)).length us rfl az.out.1 O (.slice (some ⟨bK,0,none⟩) 1 1) 1 [.slice G I J] rfl aF.out (by omega) (by simp[Value.oneCell']) (by rw[au.out];unfold maxLen;omega) (by rw[au.out];omega) (by omega) ?_;intro v' w' ao Y ag aI))
    refine⟨⟨j+1,rfl,by omega,⟨us++[.slice G I J],?_⟩,aK.out.trans Y.below⟩,by simp[intOf];omega⟩;rw[aV.out];exact RowsV.push az.out aR.out bh.out ao Y ag
  obtain rfl:j=D.length:=by omega
  rw[List.take_length]at ho;obtain⟨a7,n7,c7,rfl⟩:=qu ho.1;have HO:=hid (ho.le (show b0≤O by omega));have HB:=hid q;clear ho q;go_wp2
  go_ret2
  exact⟨_,us,rfl,by rw[Z];exact HO.out,by rw[Z];exact bk.out.trans (HB.out.mono (by omega))⟩
theorem qfu (t:TreeV)(kz z1 z2 zs:List Int)(v:Value)(w:World)(h:TreeOk t kz z1 z2 w)(hv:Hold w v zs)(he:t.err zs.length=0)(hn:zs.length≤35184372088832)(aj:lvs zs.length t.ln≤4194304):
  Calls Tryz.prog 17 #[t.val,v] w fun e w'=> ∃u,e= .returned (.tuple #[u,.int .i64 0])∧OwnB w.heap.size w' u (qQ (t.lvlZ kz z1 z2 (t.leafZ kz z1 z2 zs) ((t.rowsOf zs.length).length - 1)) 0)∧Below w.heap.size w w':=by
 obtain⟨U,o⟩:=Ex w.heap.size;have O:=fun W:World=>qak t W
 simp only[h.v]at O;have ag:=hid O;have Z:=yH h.v h.l kz z1 z2 zs;have I:=Zl h.v h.l kz z1 z2 zs;have ad:=hid (fun(W:World) (hb:Below w.heap.size w W)=>JA t kz z1 z2 zs v w W h he hv hb hn aj);have ab:=hid (fun(W:World) (x:Value) (hx:ListH W x (t.leafZ kz z1 z2 zs)) (hb:Below w.heap.size w W)=>qbI t kz z1 z2 zs.length (t.leafZ kz z1 z2 zs) x w W h he hx hb I Z.2.2 (by rw[I];omega) (by omega));have ah:=hid (show t.rowZ kz z1 z2 0 false (yp t.ln zs) (yp t.ln zs).length=t.leafZ kz z1 z2 zs from rfl);generalize t.rowZ kz z1 z2 0 false (yp t.ln zs) (yp t.ln zs).length=RZ at*;generalize t.rowC kz z1 z2 0 false (yp t.ln zs) (yp t.ln zs).length=RC at*;generalize t.lvlsC kz z1 z2 (t.leafZ kz z1 z2 zs) ((t.rowsOf zs.length).length - 1)=LC at*;generalize qQ (t.lvlZ kz z1 z2 (t.leafZ kz z1 z2 zs) ((t.rowsOf zs.length).length - 1)) 0=Y at*;obtain⟨va,vc,rfl,al,ak⟩:=hv.slice;have an:IntKind.u64.wrap (zs.length:Int)=(zs.length:Int):=u64_wrap_id _ (by omega) (by omega);have ac:Below U w (w.alloc (.cells #[.int .i64 t.k,.int .i64 t.d,.int .i64 t.f,.int .i64 t.p,.int .u32 t.l,.int .i64 t.i,.slice t.ka t.kl t.kc,.slice t.sa t.sl t.sc,.slice t.pa t.pl t.pc] 26)):=by rw[←o];exact Br.alloc Nl _
 have q:=Wn w (.cells #[.int .i64 t.k,.int .i64 t.d,.int .i64 t.f,.int .i64 t.p,.int .u32 t.l,.int .i64 t.i,.slice t.ka t.kl t.kc,.slice t.sa t.sl t.sc,.slice t.pa t.pl t.pc] 26);rw[o]at q;rw[o]at ad ab;clear h hv O he Z I;unfold TreeV.val at*;go_enter Tryz.func17,Tryz.ntmps17
 go_upto_region 1 with(fail)
 generalize w.alloc (.cells #[.int .i64 t.k,.int .i64 t.d,.int .i64 t.f,.int .i64 t.p,.int .u32 t.l,.int .i64 t.i,.slice t.ka t.kl t.kc,.slice t.sa t.sl t.sc,.slice t.pa t.pl t.pc] 26)=wA at*;go_wp2_with ((with_reducible show wpList _ _ _ (Oper.mk _ (Op.load 26 _) _ _ _ _::_) _ _);refine wpList_load_row rfl 26 _ rfl U rfl _ _ _ _ q Tryz.underlying26 rfl (by kernel_rfl) ?_)
 refine(ag.out wA).mono ?_;rintro e w2 ⟨rfl,V⟩;have D:=qg q V;have X:=ac.trans (V.mono (by have:=(Ai q).1;omega));have af:=hid X;clear q ac V X;go_wp2_with ((with_reducible show wpList _ _ _ (Oper.mk _ (Op.load 26 _) _ _ _ _::_) _ _);refine wpList_load_row rfl 26 _ rfl U rfl _ _ _ _ D Tryz.underlying26 rfl (by kernel_rfl) ?_)
 refine(ad.out w2 af.out).mono ?_;rintro e w3 ⟨cv,u,rfl, -,hu,J⟩;have G:=qg D J;have ap:=(Ai D).1;have ae:=hid (af.out.trans (J.mono (by omega)));have HU:=hid hu.hold;clear J D hu;go_wp2_with ((with_reducible show wpList _ _ _ (Oper.mk _ (Op.load 26 _) _ _ _ _::_) _ _);refine wpList_load_row rfl 26 _ rfl U rfl _ _ _ _ G Tryz.underlying26 rfl (by kernel_rfl) ?_)
 refine(ab.out w3 _ (by rw[←ah.out];exact HU.out) ae.out).mono ?_;rintro e w4 ⟨ao,y,rfl, -,hy,aa⟩;have am:=(Ai G).1;have ai:=hid (ae.out.trans (aa.mono (by omega)));have HY:=hid (hy.le (show U≤w3.heap.size by omega));clear aa hy G;go_wp2
 go_ret2
 exact⟨_,rfl,by rw[o];exact HY.out,by rw[o];exact ai.out⟩
end Go.Proofs.YthjoojnlnlmljaaGreat
namespace Go.Proofs.YthjoojnlnlmljaaGreat
open Go.ChangeShapes Go.WideShapes Go.ChangeAt Go.RowKit Go.Joins Go.Shelf Go.Maps Go.Deep
open Go.Lib (hid)
attribute [local go_sem] Oper.semAt_some
theorem qgo (zs:List Int)(u v:Value)(w:World)(D:Hold w u zs)(o:Hold w v zs):
  Calls Tryz.prog 47 #[u,v] w fun e w'=>e= .returned (.bool true)∧Below w.heap.size w w':=by
 obtain⟨I,q⟩:=Ex w.heap.size;have G:=hid (qe5 zs zs u v w D o);clear D o;go_enter Tryz.func47,Tryz.ntmps47
 go_wp2_with fail
 refine G.out.mono ?_;rintro e J ⟨rfl,m,rfl⟩;have O:decide (zs=zs)=true:=by simp
 go_wp2_with fail
 exact Bp (results_tmp rfl _ _ _) rfl ⟨rfl,by first|exact below_draws _ _ _|(rw[q];exact below_draws _ _ _)⟩
end Go.Proofs.YthjoojnlnlmljaaGreat
namespace Go.Proofs.YthjoojnlnlmljaaGreat
open Go.ChangeShapes Go.WideShapes Go.ChangeAt Go.RowKit Go.Joins Go.Shelf Go.Maps
open Go.Lib (hid)
attribute [local go_sem] Oper.semAt_some
def RowF (W:World)(g:Nat)(T:TypeId)(N:Nat)(f:Nat→Value):Prop:= ∃cur:Array Value,W.heap[g]? =some (.cells cur T (0,0))∧N≤cur.size∧ ∀i,i<N→cur[i]? =some (f i)
theorem RowF.cell {W:World}{g N i:Nat}{T:TypeId}{f:Nat→Value}(h:RowF W g T N f)(o:i<N):W.cell? ⟨g,i,none⟩=some (f i):=by
 obtain⟨G,D,I,q⟩:=h;rw[qd D i];exact q i o
theorem RowF.lt {W:World}{g N:Nat}{T:TypeId}{f:Nat→Value}(h:RowF W g T N f):g<W.heap.size:=by
 obtain⟨q,o, -⟩:=h;exact(Ai o).1
theorem RowF.stay {W W':World}{g N:Nat}{T:TypeId}{f:Nat→Value}(h:RowF W g T N f)(D:Below W.heap.size W W'):RowF W' g T N f:=by
 obtain⟨o,G,q⟩:=h;exact⟨o,qg G D,q⟩
theorem RowF.fz {W:World}{g N i:Nat}{T:TypeId}{f:Nat→Value}(h:RowF W g T N f):W.frozen? ⟨g,i,none⟩=false:=by
 obtain⟨q,o,D⟩:=h;exact frozen_of_row W g i _ _ o
theorem RowF.set {W:World}{g N:Nat}{T:TypeId}{f:Nat→Value}(h:RowF W g T N f)(x:Nat)(v:Value):RowF (W.setCell ⟨g,x,none⟩ v) g T N (fun i=>if i=x then v else f i):=by
 obtain⟨J,I,o,G⟩:=h;refine⟨_,block_setCell I v,by simpa using o,fun i q=>?_⟩;dsimp only;by_cases e:i=x
 ·subst e;rw[if_pos rfl,Array.getElem?_setIfInBounds,if_pos rfl,if_pos (by omega)]
 ·rw[if_neg e,←G i q];rw[Array.getElem?_setIfInBounds_ne (fun D=>e D.symm)]
theorem RowF.other {W:World}{g o N x:Nat}{T:TypeId}{f:Nat→Value}(h:RowF W g T N f)(D:g≠o)(v:Value):RowF (W.setCell ⟨o,x,none⟩ v) g T N f:=by
 obtain⟨q,G,I⟩:=h;exact⟨q,(((But.refl o W).set x v).block g (Ai G).1 D).trans G,I⟩
theorem RowF.ext {W:World}{g N:Nat}{T:TypeId}{f f':Nat→Value}(h:RowF W g T N f)(G: ∀i,i<N→f i=f' i):RowF W g T N f':=by
 obtain⟨q,J,D,I⟩:=h;exact⟨q,J,D,fun i o=>by rw[I i o,G i o]⟩
theorem ZO {W:World}{B N:Nat}{T:TypeId}{v:Value}{q:List Value}(h:W.ownsRow B T 1 v N q)(O:0<N): ∃g o,v= .slice (some ⟨g,0,none⟩) N o∧(N:Int)≤o∧B≤g∧RowF W g T N (fun i=>q.getD i undef):=by
 have V:q.length=N:=by have:=h.1;simpa using this
 rcases h.2 with⟨-,rfl⟩|⟨g,o,D,rfl,J,G,U,Y,X,I⟩
 ·omega
 ·refine⟨g,o,rfl,by omega,J,D,G,by omega,fun i Z=>?_⟩;have e:D.toList[i]? =q[i]? :=by rw[←I,List.getElem?_take,if_pos (by omega)]
  rw[←Array.getElem?_toList,e];show _=some (q.getD i undef)
  rw[Lg,List.getElem?_eq_getElem (by omega)];rfl
def swI (x y i:Nat):Nat:=if i=x then y else if i=y then x else i
theorem qeP {x y i N:Nat}(o:x<N)(D:y<N)(q:i<N):swI x y i<N:=by
 unfold swI;split
 ·exact D
 ·split
  ·exact o
  ·exact q
theorem qig {x y i j:Nat}(h:swI x y i=swI x y j):i=j:=by
 unfold swI at h;split at h<;>split at h<;>(try split at h)<;>(try split at h)<;>omega
def PermN (N:Nat)(p:Nat→Nat):Prop:=(∀i,i<N→p i<N)∧ ∀i j,i<N→j<N→p i=p j→i=j
theorem PermN.sw {N x y:Nat}{p:Nat→Nat}(h:PermN N p)(q:x<N)(D:y<N):PermN N (fun i=>p (swI x y i)):=
 ⟨fun i o=>h.1 _ (qeP q D o),fun i j o G e=>qig (h.2 _ _ (qeP q D o) (qeP q D G) e)⟩
theorem qg6 {α:Type}(f:Nat→α)(x y i:Nat):(if i=y then f x else if i=x then f y else f i)=f (swI x y i):=by
 unfold swI;by_cases q:i=y
 ·rw[if_pos q];by_cases o:i=x
  ·rw[if_pos o,←q,←o]
  ·rw[if_neg o,if_pos q]
 ·rw[if_neg q,if_neg q];by_cases o:i=x
  ·rw[if_pos o,if_pos o]
  ·rw[if_neg o,if_neg o]
def qav (N:Nat)(p:Nat→Nat):List Int:=(List.range N).map fun i=>(p i:Int)
def qal (N:Nat)(L:List (List Int))(p:Nat→Nat):List (List Int):=(List.range N).map fun i=>qQ L (p i)
theorem ZZ {N i:Nat}(p:Nat→Nat)(o:i<N):(qav N p).getD i 0=(p i:Int):=by unfold qav;simp[Lg,o]
theorem qa6 {N i:Nat}(L:List (List Int))(p:Nat→Nat)(o:i<N):(qal N L p).getD i []=qQ L (p i):=by unfold qal;simp[Lg,o]
theorem Jv (N:Nat)(p:Nat→Nat):(qav N p).length=N:=by unfold qav;simp
theorem Jj (N:Nat)(L:List (List Int))(p:Nat→Nat):(qal N L p).length=N:=by unfold qal;simp
theorem qcn {q:Int}{N:Nat}{L:List (List Int)}{p:Nat→Nat}(h:PermN N p)(G: ∀i,i<N→((qQ L i).length:Int)=q):qbM q (qav N p) (qal N L p) N:=
 ⟨fun i o=>by have:=h.1 i o;rw[ZZ p o];omega,fun i j I D e=>by
  rw[ZZ p (by omega),ZZ p D]at e;have:=h.2 i j (by omega) D (by omega)
  omega,fun i o=>by rw[qa6 L p o];exact G _ (h.1 i o)⟩
theorem qfp {O:Int}{N:Nat}{L:List (List Int)}{p:Nat→Nat}(h:PermN N p)(V: ∀i,i<N→((qQ L i).length:Int)=O)(J:L.length=N):YZ (qav N p) (qal N L p) N=L:=by
 have G:=qcn h V;apply List.ext_getElem (by rw[Yv,J])
 intro j D I;rw[Yv]at D;obtain⟨i,q,e⟩:=j9 G D;have o:=qd9 G q e;rw[qa6 L p q]at o;rw[ZZ p q]at e;have U:p i=j:=by omega
 rw[U]at o;unfold qQ at o;rw[Lg,Lg,List.getElem?_eq_getElem (by rw[Yv];exact D),List.getElem?_eq_getElem I]at o;simpa using o
theorem qf2 (t:TreeV)(hl:0≤t.l∧t.l≤4294967295)(n:Nat)(hn:(n:Int)≤9223372036854775807)(w:World):
  Calls Tryz.prog 49 #[t.val,.int .i64 (n:Nat),.agg #[.int .i64 1,.int .i64 1]] w fun e w'=>e= .returned (.bool (decide (t.err n=0∧lvs n t.ln≤1024)))∧Below w.heap.size w w':=by
 obtain⟨o,J⟩:=Ex w.heap.size;have al:IntKind.u64.wrap (n:Int)=(n:Int):=by rw[IntKind.wrap_u64]<;>omega
 have ab:=hid (fun W:World=>qbm 1 1 W);have aa:Qu 1 1=0:=by decide
 rw[aa]at ab;by_cases X:t.err n=0
 case neg=>
  have Y:decide (t.err n=0∧lvs n t.ln≤1024)=false:=decide_eq_false (fun h=>X h.1);rw[Y];have U:=hid (jN t hl n (by omega) X);have hq:(t.err n==0)=false:=by rw[beq_eq_false_iff_ne];exact X
  generalize t.err n=ev at*;clear X Y aa ab;unfold TreeV.val at*;go_enter Tryz.func49,Tryz.ntmps49
  go_upto_region 1 with(fail)
  refine qm ?_;intro q D;have I:q.heap[o]? =some (.cells #[.int .i64 t.k,.int .i64 t.d,.int .i64 t.f,.int .i64 t.p,.int .u32 t.l,.int .i64 t.i,.slice t.ka t.kl t.kc,.slice t.sa t.sl t.sc,.slice t.pa t.pl t.pc] 26 (0,0)):=by rw[D];exact((Br.alloc Nl _).block o (by simp;omega)).trans (qe _ _ J.symm)
  have O:Below o w q:=by rw[D,←J];exact(Br.alloc Nl _).alloc (by simp) _
  have ae:o<q.heap.size:=(Ai I).1;clear D;go_wp2_with ((with_reducible show wpList _ _ _ (Oper.mk _ (Op.load 26 _) _ _ _ _::_) _ _);refine wpList_load_row rfl 26 _ rfl o rfl _ _ _ _ I Tryz.underlying26 rfl (by kernel_rfl) ?_)
  refine(U.out q).mono ?_;rintro e Z ⟨rfl,G⟩;have V:=hid (O.trans (G.mono (show o≤q.heap.size by omega)));clear G O I U;go_wp2_with (refine yr (by rfl) ?_)
  exact Bp (results_tmp rfl _ _ _) rfl ⟨rfl,by first|exact V.out|(rw[J];exact V.out)⟩
 have U:=hid (Zi t hl n (by omega) X);obtain⟨N,hN⟩:=Ex (lvs n t.ln);rw[hN]at U⊢;have hq:((0:Int)==0)=true:=by decide
 by_cases h1:N≤1024
 case neg=>
  have Y:decide (t.err n=0∧N≤1024)=false:=decide_eq_false (fun h=>h1 h.2);rw[Y];have aj: ¬((N:Int)≤1024):=by omega
  clear X Y aa ab h1 hN;unfold TreeV.val at*;go_enter Tryz.func49,Tryz.ntmps49
  go_upto_region 1 with(fail)
  refine qm ?_;intro q D;have I:q.heap[o]? =some (.cells #[.int .i64 t.k,.int .i64 t.d,.int .i64 t.f,.int .i64 t.p,.int .u32 t.l,.int .i64 t.i,.slice t.ka t.kl t.kc,.slice t.sa t.sl t.sc,.slice t.pa t.pl t.pc] 26 (0,0)):=by rw[D];exact((Br.alloc Nl _).block o (by simp;omega)).trans (qe _ _ J.symm)
  have O:Below o w q:=by rw[D,←J];exact(Br.alloc Nl _).alloc (by simp) _
  have ae:o<q.heap.size:=(Ai I).1;clear D;go_wp2_with ((with_reducible show wpList _ _ _ (Oper.mk _ (Op.load 26 _) _ _ _ _::_) _ _);refine wpList_load_row rfl 26 _ rfl o rfl _ _ _ _ I Tryz.underlying26 rfl (by kernel_rfl) ?_)
  refine(U.out q).mono ?_;rintro e Z ⟨rfl,G⟩;have V:=hid (O.trans (G.mono (show o≤q.heap.size by omega)));clear G O I U;go_wp2_with (refine yr (by rfl) ?_)
  exact Bp (results_tmp rfl _ _ _) rfl ⟨rfl,by first|exact V.out|(rw[J];exact V.out)⟩
 have Y:decide (t.err n=0∧N≤1024)=true:=decide_eq_true ⟨X,h1⟩;rw[Y];have aj:((N:Int)≤1024):=by omega
 clear X Y aa h1 hN;unfold TreeV.val at*;go_enter Tryz.func49,Tryz.ntmps49
 go_upto_region 1 with(fail)
 refine qm ?_;intro q D;have I:q.heap[o]? =some (.cells #[.int .i64 t.k,.int .i64 t.d,.int .i64 t.f,.int .i64 t.p,.int .u32 t.l,.int .i64 t.i,.slice t.ka t.kl t.kc,.slice t.sa t.sl t.sc,.slice t.pa t.pl t.pc] 26 (0,0)):=by rw[D];exact((Br.alloc Nl _).block o (by simp;omega)).trans (qe _ _ J.symm)
 have O:Below o w q:=by rw[D,←J];exact(Br.alloc Nl _).alloc (by simp) _
 have ae:o<q.heap.size:=(Ai I).1;have ac:q.heap[o+1]? =some (.cells #[.int .i64 1,.int .i64 1] 90 (0,0)):=by rw[D];exact qe _ _ (by simp;omega)
 have ah:o+1<q.heap.size:=(Ai ac).1;have ad:=qd ac 0;have af:=qd ac 1;clear ac;clear D;go_wp2_with ((with_reducible show wpList _ _ _ (Oper.mk _ (Op.load 26 _) _ _ _ _::_) _ _);refine wpList_load_row rfl 26 _ rfl o rfl _ _ _ _ I Tryz.underlying26 rfl (by kernel_rfl) ?_)
 refine(U.out q).mono ?_;rintro e Z ⟨rfl,G⟩;have c0:Z.cell? ⟨o+1,0,none⟩=some (.int .i64 1):=(G.cell (p:=⟨o+1,0,none⟩) ah).trans ad;have c1:Z.cell? ⟨o+1,1,none⟩=some (.int .i64 1):=(G.cell (p:=⟨o+1,1,none⟩) ah).trans af;have ak:o+1<Z.heap.size:=by have:=G.size;omega
 have V:=hid (O.trans (G.mono (show o≤q.heap.size by omega)));clear G O I U ad af;go_wp2_with (refine yr (by rfl) ?_)
 refine(ab.out Z).mono ?_;rintro e w2 ⟨rfl,ag⟩;have ai:=hid (V.out.trans (ag.mono (show o≤Z.heap.size by omega)));clear ag V c0 c1;go_wp2_with (refine yr (by rfl) ?_)
 exact Bp (results_tmp rfl _ _ _) rfl ⟨rfl,by first|exact ai.out|(rw[J];exact ai.out)⟩
theorem qgJ {t:TreeV}(h:t.validE=0)(kz z1 z2 zs:List Int): ∀d∈t.leafZ kz z1 z2 zs,(d.length:Int)=t.i:=by
 intro d o;obtain⟨i, -,rfl⟩:=List.mem_map.1 o;exact qaQ h ..
theorem qhH:(Tryz.prog.info? 3).map (fun i=>(i.zero,i.size,i.bytes))=some (some (.int .i64 0),1,8):=by kernel_rfl
def sA (es:List Value)(i:Nat):Option Addr:=slA (es.getD i undef)
def sC (es:List Value)(i:Nat):Nat:=slC (es.getD i undef)
def sN (es:List Value)(i:Nat):Nat:=match es.getD i undef with| .slice _ n _=>n|_=>0
theorem qhP {o:List Value}{i n c:Nat}{a:Option Addr}(h:o.getD i undef= .slice a n c):o.getD i undef= .slice (sA o i) (sN o i) (sC o i):=by
 unfold sA sC sN;rw[h];rfl
def j8 (k:Nat):List Value:=(List.range k).map fun i=>Value.int .i64 (i:Nat)
def qa5 (es:List Value)(k:Nat):List Value:=(List.range k).map fun i=>es.getD i undef
theorem qdT (k:Nat):j8 (k+1)=j8 k++[.int .i64 (k:Nat)]:=by unfold j8;rw[List.range_succ,List.map_append];rfl
theorem qeJ (o:List Value)(k:Nat):qa5 o (k+1)=qa5 o k++[o.getD k undef]:=by unfold qa5;rw[List.range_succ,List.map_append];rfl
theorem qgt {N i:Nat}(h:i<N):(j8 N).getD i undef= .int .i64 (i:Nat):=by unfold j8;simp[Lg,h]
theorem qg5 {N i:Nat}(o:List Value)(h:i<N):(qa5 o N).getD i undef=o.getD i undef:=by unfold qa5;simp[Lg,h]
theorem qdB (a b:Nat):(a:Int).tmod (b:Int)=((a%b:Nat):Int):=by rw[Int.ofNat_tmod]
theorem qb1 (t:TreeV)(kz z1 z2 zs ks:List Int)(hl:0≤t.l∧t.l≤4294967295)(v kv:Value)(w:World)(hT:TreeH w t kz z1 z2)(hv:Hold w v zs)(Y:Hold w kv ks)(U: ¬(t.err zs.length=0∧lvs zs.length t.ln≤1024)):
  Calls Tryz.prog 7 #[t.val,v,kv] w (qh2 w):=by
 obtain⟨o,J⟩:=Ex w.heap.size;obtain⟨va,vc,rfl,ag,ae⟩:=hv.slice;obtain⟨qa,qc,rfl,ah,af⟩:=Y.slice;have G:=fun W:World=>qf2 t hl zs.length (by omega) W
 simp only[decide_eq_false U]at G;have ac:=hid G;generalize zs.length=n at*;generalize ks.length=m at*;clear G U hv Y hT;unfold TreeV.val at*;go_enter Tryz.func7,Tryz.ntmps7
 go_upto_region 1 with(fail)
 refine qm ?_;intro I V;have O:I.heap[o]? =some (.cells #[.int .i64 t.k,.int .i64 t.d,.int .i64 t.f,.int .i64 t.p,.int .u32 t.l,.int .i64 t.i,.slice t.ka t.kl t.kc,.slice t.sa t.sl t.sc,.slice t.pa t.pl t.pc] 26 (0,0)):=by rw[V];exact qe _ _ J.symm
 have Z:Below o w I:=by rw[V,←J];exact Br.alloc Nl _
 have ad:o<I.heap.size:=(Ai O).1;clear V;go_wp2_with fail
 refine(qas I).mono ?_;rintro e w1 ⟨rfl,D⟩;have q:=qg O D;have X:=hid (Z.trans (D.mono (show o≤I.heap.size by omega)));have ai:o<w1.heap.size:=(Ai q).1;clear D Z O ad;go_wp2_with ((with_reducible show wpList _ _ _ (Oper.mk _ (Op.load 26 _) _ _ _ _::_) _ _);refine wpList_load_row rfl 26 _ rfl o rfl _ _ _ _ q Tryz.underlying26 rfl (by kernel_rfl) ?_)
 refine(ac.out w1).mono ?_;rintro e w2 ⟨rfl,aa⟩;have ab:=hid (X.out.trans (aa.mono (show o≤w1.heap.size by omega)));clear aa X q;go_wp2_with fail
 exact Bp (results_tmp rfl _ _ _) rfl ⟨rfl,by first|exact ab.out|(rw[J];exact ab.out)⟩
theorem qbk (t:TreeV)(kz z1 z2 zs ks:List Int)(hl:0≤t.l∧t.l≤4294967295)(v kv:Value)(w:World)(hT:TreeH w t kz z1 z2)(hv:Hold w v zs)(aZ:Hold w kv ks)(Y:t.err zs.length=0∧lvs zs.length t.ln≤1024):
  Calls Tryz.prog 7 #[t.val,v,kv] w (qh2 w):=by
 obtain⟨V,aa⟩:=Ex w.heap.size;obtain⟨i0,hi,ck,cH,cm⟩:=info_parts qhH;obtain⟨ib,ca,co,cI,cz⟩:=info_parts YG;obtain⟨va,vc,rfl,cP,cV⟩:=hv.slice;obtain⟨qa,qc,rfl,cS,cO⟩:=aZ.slice;have ai:=qW Y.1;have ba:lvs zs.length t.ln≤4194304:=by omega
 have hn:zs.length≤35184372088832:=by
  have h1:=qaZ (m:=zs.length) (d:=t.ln) (k:=1024) (QF hl Y.1).1 (by have:=Y.2;unfold lvs at this;omega);have h2:=(QF hl Y.1).2.1;omega
 have aO:=fun W:World=>qf2 t hl zs.length (by omega) W
 simp only[decide_eq_true Y]at aO;have bq:=hid aO;have aX:=fun(W:World) (J:Below V w W)=>qeY t kz z1 z2 zs (.slice va zs.length vc) W ⟨ai,hl,hT.k.below (aa▸J),hT.s.below (aa▸J),hT.p.below (aa▸J)⟩ (hv.below (aa▸J)) Y.1 hn ba
 have bc:=fun(W:World) (J:Below V w W)=>qfu t kz z1 z2 zs (.slice va zs.length vc) W ⟨ai,hl,hT.k.below (aa▸J),hT.s.below (aa▸J),hT.p.below (aa▸J)⟩ (hv.below (aa▸J)) Y.1 hn ba
 have bR:(t.allC kz z1 z2 zs ((t.rowsOf zs.length).length - 1+1)).map (·.map t.outC)=t.rowsZ kz z1 z2 zs:=by unfold TreeV.rowsZ;rw[if_pos ai]
 have bo:qQ (t.lvlZ kz z1 z2 (t.leafZ kz z1 z2 zs) ((t.rowsOf zs.length).length - 1)) 0=t.digZ kz z1 z2 zs:=by unfold TreeV.digZ;rw[if_pos ai]
 rw[bR]at aX;rw[bo]at bc;clear bR bo;have a5:=hid aX;have cu:=hid bc;have cl:=hid (fun(W:World) (J:Below V w W)=>(⟨ai,hl,hT.k.below (aa▸J),hT.s.below (aa▸J),hT.p.below (aa▸J)⟩:TreeOk t kz z1 z2 W));have cn:=hid (fun(W:World) (J:Below V w W)=>aZ.below (aa▸J));have b5:=(qM Y.1).len;obtain⟨LZ,ar⟩:=Ex (t.leafZ kz z1 z2 zs);have aL:=qbJ ai kz z1 z2 zs (k:=0) (by omega);rw[show t.lvlZ kz z1 z2 (t.leafZ kz z1 z2 zs) 0=t.leafZ kz z1 z2 zs from rfl,ar]at aL;obtain⟨N,hN⟩:=Ex (lvs zs.length t.ln);have bp:LZ.length=N:=by rw[←ar,←hN];exact Zl ai hl kz z1 z2 zs
 have bP: ∀i,i<N→((qQ LZ i).length:Int)=t.i:=fun i U=>by
  exact qgJ ai kz z1 z2 zs _ (by rw[ar];exact qhv (by omega))
 have bM:t.digZ kz z1 z2 zs=qQ (t.lvlZ kz z1 z2 LZ ((t.rowsOf zs.length).length - 1)) 0:=by unfold TreeV.digZ;rw[if_pos ai,ar]
 have cA:=hid bM;have bC:=hid bp;have bv:=hid bP;have cE:=hid Y;have cF:=hid hN;have aG:=hid aL;have c9:1≤N:=by rw[←hN];unfold lvs;omega
 have c6:N≤1024:=by rw[←hN];exact Y.2
 have c3:(N:Int)≤1024:=by omega
 have cU:(1:Int)≤(N:Int):=by omega
 have dt:IntKind.u64.wrap (zs.length:Int)=(zs.length:Int):=by rw[IntKind.wrap_u64]<;>omega
 clear aO Y ai aX bc hT hv aZ b5 aL bp bP bM hN ar ba;unfold TreeV.val at*;go_enter Tryz.func7,Tryz.ntmps7
 go_upto_region 1 with(fail)
 refine qm ?_;intro wA a9;have aJ:wA.heap[V]? =some (.cells #[.int .i64 t.k,.int .i64 t.d,.int .i64 t.f,.int .i64 t.p,.int .u32 t.l,.int .i64 t.i,.slice t.ka t.kl t.kc,.slice t.sa t.sl t.sc,.slice t.pa t.pl t.pc] 26 (0,0)):=by rw[a9];exact qe _ _ aa.symm
 have br:Below V w wA:=by rw[a9,←aa];exact Br.alloc Nl _
 have cD:V<wA.heap.size:=(Ai aJ).1;clear a9;go_wp2_with fail
 refine(qas wA).mono ?_;rintro e w1 ⟨rfl,aV⟩;have X:=qg aJ aV;have an:=hid (br.trans (aV.mono (show V≤wA.heap.size by omega)));have ci:V<w1.heap.size:=(Ai X).1;clear aV br aJ cD;go_wp2_with ((with_reducible show wpList _ _ _ (Oper.mk _ (Op.load 26 _) _ _ _ _::_) _ _);refine wpList_load_row rfl 26 _ rfl V rfl _ _ _ _ X Tryz.underlying26 rfl (by kernel_rfl) ?_)
 refine(bq.out w1).mono ?_;rintro e w2 ⟨rfl,am⟩;have ah:=qg X am;have bi:=hid (an.out.trans (am.mono (show V≤w1.heap.size by omega)));have cc:V<w2.heap.size:=(Ai ah).1;clear am an X bq ci;go_wp2_with ((with_reducible show wpList _ _ _ (Oper.mk _ (Op.load 26 _) _ _ _ _::_) _ _);refine wpList_load_row rfl 26 _ rfl V rfl _ _ _ _ ah Tryz.underlying26 rfl (by kernel_rfl) ?_)
 refine(a5.out w2 bi.out).mono ?_;rintro e w3 ⟨uR,vs,rfl,aR,a3⟩;have bn:=qg ah a3;have cG:=hid (bi.out.trans (a3.mono (show V≤w2.heap.size by omega)));have ch:=hid bn;obtain⟨gR,cQ,rfl,aI,cR⟩:=aR.getP aG.out.2;obtain⟨I,aq,ap⟩:=aR.2.1 0 aG.out.2;rw[aG.out.1]at aq ap;rw[bC.out]at aq ap;obtain⟨gL,cL,eL,dm, -,bf⟩:=ZO aq (by omega);rw[eL]at cR;have bz:gL<w3.heap.size:=bf.lt;have ct:=hid bf;have aD:=hid ap;obtain⟨bK,aU⟩:=Ex w3.heap.size;have cx:V<w3.heap.size:=(Ai bn).1;have dj:(1:Int)≤((t.rowsZ kz z1 z2 zs).length:Int):=by have:=aG.out.2;omega
 generalize (t.rowsZ kz z1 z2 zs).length=rl at*;rw[aU]at aI bz cx;have cX:gR<w3.heap.size:=by omega
 clear a3 bi ah a5 cc aR aq ap eL bf;go_wp2_with fail
 go_loopw [10,11,12] (fun o q i W=> ∃k:Nat,i= .int .i64 (k:Nat)∧k≤N∧W.ownsRow bK 3 1 o k (j8 k)∧W.ownsRow bK 24 1 q k (qa5 I k)∧Below bK w3 W) (fun _ _ i _=>N - (intOf i).toNat)
 case atStart=>exact⟨0,rfl,Nat.zero_le _,Wo _ _ _ _,Wo _ _ _ _,Below.refl _ _⟩
 case round=>
  obtain⟨k,rfl,hk,ho,hq,J⟩:=hrel;obtain⟨oa,on,oc,rfl⟩:=qu ho;obtain rfl:k=on:=(yu ho).symm;obtain⟨pa,pn,pc,rfl⟩:=qu hq;obtain rfl:pn=k:=yu hq;have HO:=hid ho;have HQ:=hid hq;have HB:=hid J;have aY:bK≤wr.heap.size:=by have:=J.size;omega
  by_cases ac:pn<N
  case pos=>
   have bZ:(pn:Int)<(N:Int):=by omega
   have bH:=ct.out.stay (aU▸J);have ce:=bH.cell ac;obtain⟨xa,xc,ex⟩:=(aD.out pn ac).form;generalize (qQ LZ pn).length=xn at*;rw[ex]at ce;have cp:=hid ex;have cr:wr.cell? ⟨gR,0,none⟩=some (.slice (some ⟨gL,0,none⟩) N cL):=(J.cell (p:=⟨gR,0,none⟩) aI).trans cR;have bV:(pn+1≤maxLen)∧(pn+1)*8≤140737488355328:=by unfold maxLen;omega
   have a6:(pn+1≤maxLen)∧(pn+1)*24≤140737488355328:=by unfold maxLen;omega
   clear ho hq J ex bH;go_upto_region 13 with(at_builtin;refine yI rfl _ _ _ rfl bK 3 (by decide) i0 (.int .i64 0) 1 8 Tryz.underlying48 hi ck cH cm rfl (by decide) (.slice oa pn oc) pn (j8 pn) [.int .i64 (pn:Nat)] _ rfl HO.out rfl rfl (by simp[Value.oneCell']) bV.1 bV.2 aY ?_;intro v' w' ag af ao;obtain⟨dn,dq,de,rfl⟩:=qu ag;have da:w'.cell? ⟨gR,0,none⟩=some (.slice (some ⟨gL,0,none⟩) N cL):=(af.below.cell (p:=⟨gR,0,none⟩) aI).trans cr;have dh:w'.cell? ⟨gL,pn,none⟩=some (.slice xa xn xc):=(af.below.cell (p:=⟨gL,pn,none⟩) bz).trans ce;have bs:=QZ HQ.out (fun g hg=>ao.block g (Qf HQ.out g hg) (fun e=>by obtain⟨c,hc⟩:=Yu HQ.out g hg;exact Y3 HO.out hc (by decide) g e rfl));have b9:bK≤w'.heap.size:=Nat.le_trans aY af.size;have a4:=hid ag;have bF:=hid bs;have cv:=hid (HB.out.trans af.below);clear ag af ao bs)
   have cM:gR<w'.heap.size:=by omega
   have cT:gL<w'.heap.size:=by omega
   clear HO HQ HB cr ce aY;go_wp2_with (at_builtin;refine yI rfl _ _ _ rfl bK 24 (by decide) ib (.slice none 0 0) 1 24 Tryz.underlying67 ca co cI cz rfl (by decide) (.slice pa pn pc) pn (qa5 I pn) [.slice xa xn xc] _ rfl bF.out rfl rfl (by simp[Value.oneCell']) a6.1 a6.2 b9 ?_;intro dp c8 ag af ao;have be:=QZ a4.out (fun g hg=>ao.block g (Qf a4.out g hg) (fun e=>by obtain⟨c,hc⟩:=Yu a4.out g hg;exact Y3 bF.out hc (by decide) g e rfl));have b4:=hid be;have bY:=hid ag;have b6:=hid (cv.out.trans af.below);clear ag af ao be)
   exact⟨⟨pn+1,by go_num,by omega,by rw[qdT];exact b4.out,by rw[qeJ,cp.out];exact bY.out,b6.out⟩,by simp[intOf];omega⟩
  have cb:N=pn:=by omega
  subst cb;have bX: ¬((N:Int)<(N:Int)):=by omega
  obtain⟨go,dg,eo,c7,bE,al⟩:=ZO ho (by omega);obtain⟨gs,cY,bW,di,bL,aj⟩:=ZO hq (by omega);have bj:go≠gs:=fun e=>by
   obtain⟨c,hc⟩:=al;obtain⟨c',cd⟩:=aj;rw[e,cd.1]at hc;simp only[Option.some.injEq,Obj.cells.injEq]at hc;exact absurd hc.1.2.1 (by decide)
  have bG:=hid bj;have bS:=hid (al.ext (f':=fun i=> .int .i64 (i:Nat)) (fun i U=>qgt U));have bD:=hid (aj.ext (f':=fun i=>Value.slice (sA I i) (sN I i) (sC I i)) (fun i U=>by
   rw[qg5 I U];obtain⟨xa,xc,ex⟩:=(aD.out i U).form;exact qhP ex))
  have bN:=hid bE;have bt:=hid bL;have cJ:(ks.length:Int)≤9223372036854775807:=by omega
  simp only[Value.slice.injEq]at eo bW;obtain⟨rfl, -,rfl⟩:=eo;obtain⟨rfl, -,rfl⟩:=bW;clear ho hq J ac al aj bj bE bL hk;have cW:=bX;go_wp2_with fail
  go_loopw [59] (fun i W=> ∃(k:Nat) (p:Nat→Nat),i= .int .i64 (k:Nat)∧k≤ks.length∧PermN N p∧RowF W go 3 N (fun i=> .int .i64 (p i:Nat))∧RowF W gs 24 N (fun i=>Value.slice (sA I (p i)) (sN I (p i)) (sC I (p i)))∧Below bK w3 W) (fun i _=>ks.length - (intOf i).toNat)
  case atStart=>exact⟨0,fun i=>i,rfl,Nat.zero_le _,⟨fun i h=>h,fun i j _ _ e=>e⟩,bS.out,bD.out,HB.out⟩
  case round=>
   clear bS bD HB;obtain⟨k,p,rfl,hk,hp,al,aj,J⟩:=hrel;have aB:Below V w wr:=cG.out.trans (J.mono (by omega));by_cases ac:k<ks.length
   case pos=>
    have bZ:(k:Int)<(ks.length:Int):=by omega
    have aS:=cn.out wr aB;have bQ:=aS.1;obtain⟨qb,qo,rfl,dk,bU⟩: ∃qb qo,qa=some ⟨qb,qo,none⟩∧qb<wr.heap.size∧ ∀i,i<ks.length→wr.cell? ⟨qb,qo+i,none⟩=some (.int .u8 (qr ks i)):=by
     rcases aS.2 with⟨e, -⟩|⟨ad,dr,e, -, -,h3⟩
     ·rw[e]at ac;simp at ac
     ·rcases h3 with h3|⟨qb,qo,rfl,h3,h4⟩
      ·rw[h3]at ac;simp at ac
      ·simp only[Value.slice.injEq]at e;exact⟨qb,qo,e.1,h3,h4⟩
    have cq:=bU k ac;have aH:0≤qr ks k∧qr ks k≤255:=by
     refine bQ _ ?_;unfold qr;rw[Lg,List.getElem?_eq_getElem ac];exact List.getElem_mem _
    obtain⟨c,hc⟩: ∃c:Nat,qr ks k=(c:Int):=⟨(qr ks k).toNat,by omega⟩;rw[hc]at cq aH;obtain⟨x,aT⟩:=Ex (k%N);obtain⟨y,bb⟩:=Ex (c%N);have hx:x<N:=by rw[←aT];exact Nat.mod_lt _ (by omega)
    have hy:y<N:=by rw[←bb];exact Nat.mod_lt _ (by omega)
    have dl:(x:Int)<(N:Int):=by omega
    have cZ:(y:Int)<(N:Int):=by omega
    have dc:(k:Int).tmod (N:Int)=(x:Int):=by rw[qdB,aT]
    have c4:(c:Int).tmod (N:Int)=(y:Int):=by rw[qdB,bb]
    have df:IntKind.i64.wrap (c:Int)=(c:Int):=by rw[IntKind.wrap_i64]<;>omega
    have c5:((N:Int)==0)=false:=by rw[beq_eq_false_iff_ne];omega
    have cN: ¬((N:Int)=0):=by omega
    have HP:=hid hp;have ab:=hid al;have bh:=hid aj;have aw:=hid J;have aK:=bN;have av:=hid (Ne.symm bG.out);clear hp al aj J aB aS bQ bU hc aT bb aH;rename World=>wq
    go_upto_region 19 with(fail)
    refine yC (n:=14) (fun f W=>(f=false→Below wq.heap.size wq W)∧(f=true→RowF W go 3 N (fun i=>if i=x then .int .i64 (p y:Nat) else .int .i64 (p i:Nat))∧RowF W gs 24 N (fun i=>Value.slice (sA I (p i)) (sN I (p i)) (sC I (p i)))∧Below bK w3 W)) 13 [.v 71 (.slice (some ⟨go,0,none⟩) N oc),.v 72 (.int .i64 (x:Nat)),.v 73 (.slice (some ⟨go,0,none⟩) N oc),.v 74 (.int .i64 (y:Nat)),.v 75 (.slice (some ⟨go,0,none⟩) N oc),.v 76 (.int .i64 (y:Nat)),.v 77 (.pointer (some ⟨go,y,none⟩)),.v 78 (.int .i64 (p y:Nat)),.v 79 (.slice (some ⟨go,0,none⟩) N oc),.v 80 (.int .i64 (x:Nat)),.v 81 (.pointer (some ⟨go,x,none⟩)),.v 82 (.int .i64 (p x:Nat)),.v 83 (.pointer (some ⟨go,x,none⟩)),.s (fun _=>True)] (by exact⟨fun _ _ _ h=>h,trivial⟩) ⟨fun _=>Br.drew,fun h=>(by cases h)⟩ (fun f W W' h J=>⟨fun e=>(h.1 e).trans (J.mono (h.1 e).size),fun e=>⟨(h.2 e).1.stay J,(h.2 e).2.1.stay J,(h.2 e).2.2.trans (J.mono (by have:=(h.2 e).2.2.size;omega))⟩⟩) ?_ ?_ ?_
    ·repeat' (with_reducible first|exact qz|refine qx ?_ ?_)
     all_goals try
      refine .inr ?_;intro A xx W f O Z hf G D K hK;have cw:=O.2 10 (by decide);conv at cw=>rhs;whnf
      have aN:=O.2 15 (by decide);conv at aN=>rhs;whnf
      have a8:=O.2 16 (by decide);conv at a8=>rhs;whnf
      simp only[QN,QV]at D;clear G O;go_simp
      exact hK _ _ BR rfl
     any_goals exact .inl rfl
     all_goals refine .inr ?_
     ·intro A xx W f O Z hf G _ K hK;have g0:=gw O G 6 77;clear G O;have ae:f=false:=hf (by kernel_rfl);have c0:=(ab.out.stay (Z.1 ae)).cell hy;have ak:go<W.heap.size:=(ab.out.stay (Z.1 ae)).lt;go_simp
      exact hK _ _ BR rfl
     ·intro A xx W f O Z hf G _ K hK;have g0:=gw O G 10 81;clear G O;have ae:f=false:=hf (by kernel_rfl);have c0:=(ab.out.stay (Z.1 ae)).cell hx;have ak:go<W.heap.size:=(ab.out.stay (Z.1 ae)).lt;go_simp
      exact hK _ _ BR rfl
    ·intro A xx W O Z G K hK;have cB:=gw O G 12 83;have g7:=gw O G 7 78;clear G O;have hB:=Z.1 rfl;have hr:=ab.out.stay hB;have c0:=hr.cell hx;have ak:=hr.lt;have fz:=hr.fz (i:=x);have ho:=bh.out.stay hB;go_simp
     exact hK _ _ (fun _=>by trivial) ⟨fun h=>(by cases h),fun _=>⟨hr.set x _,ho.other av.out _,(aw.out.trans (hB.mono (by have:=aw.out.size;omega))).setCell aK.out _⟩⟩ ⟨.inr (fun _ h=>h),.inr (fun _ h=>h),.inr (fun _ h=>h),.inr (fun _ h=>h),.inr (fun _ h=>h),.inr (fun _ h=>h),.inr (fun _ h=>h),.inr (fun _ h=>h),.inr (fun _ h=>h),.inr (fun _ h=>h),.inr (fun _ h=>h),.inr (fun _ h=>h),.inr (fun _ h=>h),.inl rfl,trivial⟩ trivial
    intro xx xW Z aC;clear aC;obtain⟨X,ax,ay⟩:=Z.2 rfl;refine qp ?_;simp only[QA,Act.put,Ls];have az:=hid X;have au:=hid ax;have an:=hid ay;obtain⟨vy,cy⟩: ∃vy,xW.cell? ⟨go,y,none⟩=some vy:=⟨_,X.cell hy⟩;have ak:=X.lt;have fz:=X.fz (i:=y);clear X ax ay Z;go_wp2_with fail
    refine qp ?_;go_wp2_with fail
    refine qv ?_;have ah:=(az.out.set y (.int .i64 (p x:Nat))).ext (f':=fun i=> .int .i64 (p (swI x y i):Nat)) (fun i U=>qg6 (fun i=>Value.int .i64 (p i:Nat)) x y i);have aA:=au.out.other (x:=y) av.out (.int .i64 (p x:Nat));have am:Below bK w3 (xW.setCell ⟨go,y,none⟩ (.int .i64 (p x:Nat))):=an.out.setCell bN.out _;generalize xW.setCell ⟨go,y,none⟩ (.int .i64 (p x:Nat))=bx at*;have ab:=hid aA;have bh:=hid ah;have aw:=hid am;have aK:=bt;have av:=bG;clear ah aA am az au an ak fz cy;go_upto_region 20 with(fail)
    refine yC (n:=14) (fun f W=>(f=false→Below bx.heap.size bx W)∧(f=true→RowF W gs 24 N (fun i=>if i=x then Value.slice (sA I (p y)) (sN I (p y)) (sC I (p y)) else Value.slice (sA I (p i)) (sN I (p i)) (sC I (p i)))∧RowF W go 3 N (fun i=> .int .i64 (p (swI x y i):Nat))∧Below bK w3 W)) 13 [.v 85 (.slice (some ⟨gs,0,none⟩) N pc),.v 86 (.int .i64 (x:Nat)),.v 87 (.slice (some ⟨gs,0,none⟩) N pc),.v 88 (.int .i64 (y:Nat)),.v 89 (.slice (some ⟨gs,0,none⟩) N pc),.v 90 (.int .i64 (y:Nat)),.v 91 (.pointer (some ⟨gs,y,none⟩)),.v 92 (Value.slice (sA I (p y)) (sN I (p y)) (sC I (p y))),.v 93 (.slice (some ⟨gs,0,none⟩) N pc),.v 94 (.int .i64 (x:Nat)),.v 95 (.pointer (some ⟨gs,x,none⟩)),.v 96 (Value.slice (sA I (p x)) (sN I (p x)) (sC I (p x))),.v 97 (.pointer (some ⟨gs,x,none⟩)),.s (fun _=>True)] (by exact⟨fun _ _ _ h=>h,trivial⟩) ⟨fun _=>Br.drew,fun h=>(by cases h)⟩ (fun f W W' h J=>⟨fun e=>(h.1 e).trans (J.mono (h.1 e).size),fun e=>⟨(h.2 e).1.stay J,(h.2 e).2.1.stay J,(h.2 e).2.2.trans (J.mono (by have:=(h.2 e).2.2.size;omega))⟩⟩) ?_ ?_ ?_
    ·repeat' (with_reducible first|exact qz|refine qx ?_ ?_)
     all_goals try
      refine .inr ?_;intro A xx W f O Z hf G D K hK;have cg:=O.2 11 (by decide);conv at cg=>rhs;whnf
      have aN:=O.2 15 (by decide);conv at aN=>rhs;whnf
      have a8:=O.2 16 (by decide);conv at a8=>rhs;whnf
      simp only[QN,QV]at D;clear G O;go_simp
      exact hK _ _ BR rfl
     any_goals exact .inl rfl
     all_goals refine .inr ?_
     ·intro A xx W f O Z hf G _ K hK;have g0:=gw O G 6 91;clear G O;have ae:f=false:=hf (by kernel_rfl);have c0:=(ab.out.stay (Z.1 ae)).cell hy;have ak:gs<W.heap.size:=(ab.out.stay (Z.1 ae)).lt;go_simp
      exact hK _ _ BR rfl
     ·intro A xx W f O Z hf G _ K hK;have g0:=gw O G 10 95;clear G O;have ae:f=false:=hf (by kernel_rfl);have c0:=(ab.out.stay (Z.1 ae)).cell hx;have ak:gs<W.heap.size:=(ab.out.stay (Z.1 ae)).lt;go_simp
      exact hK _ _ BR rfl
    ·intro A xx W O Z G K hK;have cB:=gw O G 12 97;have g7:=gw O G 7 92;clear G O;have hB:=Z.1 rfl;have hr:=ab.out.stay hB;have c0:=hr.cell hx;have ak:=hr.lt;have fz:=hr.fz (i:=x);have ho:=bh.out.stay hB;go_simp
     exact hK _ _ (fun _=>by trivial) ⟨fun h=>(by cases h),fun _=>⟨hr.set x _,ho.other av.out _,(aw.out.trans (hB.mono (by have:=aw.out.size;omega))).setCell aK.out _⟩⟩ ⟨.inr (fun _ h=>h),.inr (fun _ h=>h),.inr (fun _ h=>h),.inr (fun _ h=>h),.inr (fun _ h=>h),.inr (fun _ h=>h),.inr (fun _ h=>h),.inr (fun _ h=>h),.inr (fun _ h=>h),.inr (fun _ h=>h),.inr (fun _ h=>h),.inr (fun _ h=>h),.inr (fun _ h=>h),.inl rfl,trivial⟩ trivial
    intro xx xW Z aC;clear aC;obtain⟨X,ax,ay⟩:=Z.2 rfl;refine qp ?_;simp only[QA,Act.put,Ls];have az:=hid X;have au:=hid ax;have an:=hid ay;obtain⟨vy,cy⟩: ∃vy,xW.cell? ⟨gs,y,none⟩=some vy:=⟨_,X.cell hy⟩;have ak:=X.lt;have fz:=X.fz (i:=y);clear X ax ay Z;go_wp2_with fail
    refine qp ?_;go_wp2_with fail
    refine qv ?_;have ah:=(az.out.set y (Value.slice (sA I (p x)) (sN I (p x)) (sC I (p x)))).ext (f':=fun i=>Value.slice (sA I (p (swI x y i))) (sN I (p (swI x y i))) (sC I (p (swI x y i)))) (fun i U=>qg6 (fun i=>Value.slice (sA I (p i)) (sN I (p i)) (sC I (p i))) x y i);have aA:=au.out.other (x:=y) av.out (Value.slice (sA I (p x)) (sN I (p x)) (sC I (p x)));have am:Below bK w3 (xW.setCell ⟨gs,y,none⟩ (Value.slice (sA I (p x)) (sN I (p x)) (sC I (p x)))):=an.out.setCell bt.out _;have cf:=hid ah;have cC:=hid aA;have b8:=hid am;clear ah aA am az au an ak fz cy;go_wp2_with fail
    exact⟨⟨k+1,fun i=>p (swI x y i),by go_num,by omega,HP.out.sw hx hy,cC.out,cf.out,b8.out⟩,by simp[intOf];omega⟩
   have cK: ¬((k:Int)<(ks.length:Int)):=by omega
   have bA:=Jv N p;have bm:=Jj N LZ p;have aQ:NumsH wr go 0 (qav N p):=⟨al.lt,fun i U=>by rw[Jv]at U;rw[Nat.zero_add,ZZ p U];exact al.cell U⟩;have aW:SumsH wr gs 0 (fun i=>Value.slice (sA I (p i)) (sN I (p i)) (sC I (p i))) (qal N LZ p):=⟨aj.lt,fun i U=>by
    rw[Jj]at U;rw[Nat.zero_add,qa6 LZ p U];obtain⟨xa,xc,ex⟩:=(aD.out (p i) (hp.1 i U)).form;exact⟨aj.cell U,by dsimp only;rw[←qhP ex];exact(aD.out (p i) (hp.1 i U)).hold.below (aU▸J)⟩⟩
   have aM:=qcn hp bv.out;have bk:=qfp hp bv.out bC.out;have bd:=qdV t kz z1 z2 hl zs.length (by omega) cE.out.1 N cF.out (by omega) (qav N p) (qal N LZ p) bA bm (fun i=>Value.slice (sA I (p i)) (sN I (p i)) (sC I (p i))) go 0 gs 0 oc pc wr (cl.out wr aB) aQ aW (by omega) (by omega);rw[bk,←cA.out]at bd;have bw:=hid bd;have b3:=hid aM;have bl:=hid aB;have aE:=(J.block V (by omega)).trans ch.out;have b7:V<wr.heap.size:=(Ai aE).1;clear bd aM bk aQ aW bA bm al aj hp hk ac J aB;unfold TreeV.val at*;go_upto_region 22 with(fail)
   go_wp2_with ((with_reducible show wpList _ _ _ (Oper.mk _ (Op.load 26 _) _ _ _ _::_) _ _);refine wpList_load_row rfl 26 _ rfl V rfl _ _ _ _ aE Tryz.underlying26 rfl (by kernel_rfl) ?_)
   refine bw.out.mono ?_;rintro e w5 (⟨-,h, -⟩|⟨u,rfl, -,hu,aP⟩)
   ·exact absurd b3.out h
   have a7:=qg aE aP;have bg:=hid (bl.out.trans (aP.mono (show V≤wr.heap.size by omega)));have HU:=hid (hu.le (show V≤wr.heap.size by omega));have db:V<w5.heap.size:=(Ai a7).1;clear aP aE hu bw bl b7;go_wp2_with ((with_reducible show wpList _ _ _ (Oper.mk _ (Op.load 26 _) _ _ _ _::_) _ _);refine wpList_load_row rfl 26 _ rfl V rfl _ _ _ _ a7 Tryz.underlying26 rfl (by kernel_rfl) ?_)
   refine(cu.out w5 bg.out).mono ?_;rintro e w6 ⟨v6,rfl,bT,aF⟩;have bu:=hid (bg.out.trans (aF.mono (show V≤w5.heap.size by omega)));have bJ:=hid (qgo (t.digZ kz z1 z2 zs) u v6 w6 (HU.out.hold.below aF) bT.hold);have cj:V≤w6.heap.size:=by have:=aF.size;omega
   have dd:((0:Int)==0)=true:=by decide
   clear aF a7 HU bT bg;go_wp2_with (refine yr (by rfl) ?_)
   refine bJ.out.mono ?_;rintro e w7 ⟨rfl,bO⟩;have bI:=hid (bu.out.trans (bO.mono cj));clear bO bJ bu;go_wp2_with (refine yr (by rfl) ?_)
   exact Bp (results_tmp rfl _ _ _) rfl ⟨rfl,by first|exact bI.out|(rw[aa];exact bI.out)⟩
end Go.Proofs.YthjoojnlnlmljaaGreat
namespace Go.Proofs.YthjoojnlnlmljaaGreat
open Go.ChangeShapes Go.WideShapes Go.ChangeAt Go.RowKit Go.Joins Go.Shelf Go.Maps
open Go.Lib (hid)
theorem qaN {H:Type}(enc:TypeId×Value→H)(W:World)(base:Nat)(args:Array Value)(ds:List (DataW H))(p:List MemPlace)
  (o: ∀(j:Nat) t v,Tryz.f7.params[j]? =some t→args[j]? =some v→Value.okWide Tryz.prog W .any base t v)
  (U:DataW.TrodAll enc Tryz.prog W 0 (fun _=>true) true Tryz.f7.params.toList args.toList ds p) (D: ∀x∈p,x.block<W.heap.size)
  (_:(DataW.weightsEach Tryz.prog Tryz.f7.params.toList ds).all (· ≤reachBytes)=true):
  Calls Tryz.prog 7 args W (qh2 W):=by
 rw[Tryz.params7]at U o;obtain⟨v0,O,J,d0,d1,d2,p0,p1,p2,rfl,rfl,rfl,h0,h1,h2⟩:=trodAll_three U;obtain⟨t,kz,z1,z2,rfl,X,V, -, -, -⟩:=qfi (o 0 26 v0 rfl rfl) h0 (fun x q=>D x (by simp[q]));obtain⟨zs,I, -⟩:=qau (o 1 24 O rfl rfl) h1 (fun x q=>D x (by simp[q]));obtain⟨Y,G, -⟩:=qau (o 2 24 J rfl rfl) h2 (fun x q=>D x (by simp[q]));by_cases Z:t.err zs.length=0∧lvs zs.length t.ln≤1024
 ·exact qbk t kz z1 z2 zs Y X O J W V I G Z
 ·exact qb1 t kz z1 z2 zs Y X O J W V I G Z
theorem Jr (Y:Os)(o:Y.Started)(H:Type)(enc:TypeId×Value→H):
    ReturnsInHanded {} Tryz.checked Y 7 .any (Rows.poolOrdersSpec.pre6 enc Tryz.prog Tryz.f7 Rows.poolOrdersRow.domain false) (Rows.poolOrdersSpec.post enc Tryz.prog Tryz.f7 false true false false):=by
  refine returnsInHanded_of_change_sized (C:=Tryz.checked) own o (by kernel_rfl) Tryz.func7
    (ChangeSpec.witness6 (enc:=enc) (C:=Tryz.checked) false ⟨#[],#[.agg #[.int .i64 0,.int .i64 0,.int .i64 0,.int .i64 0,.int .u32 0,.int .i64 0,.slice none 0 0,.slice none 0 0,.slice none 0 0],.slice none 0 0,.slice none 0 0],[]⟩ 40 (by kernel_rfl) (by kernel_rfl) (by kernel_rfl) (by kernel_rfl)) ?_
  intro W base args ds gs V D O aa hz _;have G:=O;obtain⟨p,q,J,hV,rfl,ac,ab⟩:=O;have U:DataW.TrodAll enc Tryz.prog W 0 (fun _=>true) true Tryz.f7.params.toList args.toList ds p:=J;obtain⟨rfl,rfl⟩:=trodVars_none hV;have X:(DataW.weightsEach Tryz.prog Tryz.f7.params.toList ds).all (· ≤reachBytes)=true:=by
    have e1:Tryz.f7.params.toList++Rows.poolOrdersSpec.plain.varTypes Tryz.prog=Tryz.f7.params.toList:=List.append_nil _;rw[←e1,←List.append_nil ds];exact hz
  refine(qaN enc W base args ds p D U (fun x Z=>G.lt x (by simpa using Z)) X).mono fun e W' h=>⟨_,h.1,?_⟩
  refine qb0 qiv _ rfl Tryz.underlying4 (by decide+kernel) rfl G ?_ h.2;have I:=U;rw[Tryz.params7]at I;obtain⟨v0,v1,v2,d0,d1,d2,p0,p1,p2,rfl,rfl,_⟩:=trodAll_three I;rfl
theorem poolOrders_holds:Rows.PoolOrdersSaid:=
  OpenClaim.holds_of_wide 7 Tryz.f7 rfl rfl rfl rfl rfl rfl rfl ⟨rfl,rfl,rfl,rfl,rfl⟩ rfl rfl rfl rfl rfl (by kernel_rfl) Tryz.func7 (by kernel_rfl)
    (of_decide_eq_true (by kernel_rfl)) (by unfold Func.isWrapper;first|(rw[if_pos (by decide+kernel)];kernel_rfl)|(rw[if_neg (by decide+kernel)];exact⟨rfl,rfl⟩))
    (fun q o H enc _=>Jr q o H enc)
#print axioms poolOrders_holds
end Go.Proofs.YthjoojnlnlmljaaGreat
