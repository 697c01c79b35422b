/- The leaves' calls and outputs, by the reference. No condition. -/
import Derived.Test.YthjoojnlnlmljaaGreatP29
import Derived.Test.YthjoojnlnlmljaaGreatP25
import Derived.Test.YthjoojnlnlmljaaGreatP30
set_option linter.all false
set_option maxRecDepth 100000
set_option maxHeartbeats 8000000
namespace Go.Proofs.YthjoojnlnlmljaaGreat
open Go.ChangeShapes Go.WideShapes Go.ChangeAt Go.RowKit Go.Joins Go.Shelf Go.Maps
open Go.Lib (hid)
attribute [local go_sem] Oper.semAt_some
theorem qhH {w:World}{a:Option Addr}{n c o q:Nat}{zs:List Int}(h:Hold w (.slice a n c) zs)(Z:o≤q)(U:q≤zs.length):Hold w (.slice (if c=o then a else a.map (·.add o)) (q - o) (c - o)) ((zs.drop o).take (q - o)):=by
 refine⟨fun z V=>h.1 z (List.mem_of_mem_drop (List.mem_of_mem_take V)),?_⟩;have D:((zs.drop o).take (q - o)).length=q - o:=by simp;omega
 rcases h.2 with⟨rfl,e⟩|⟨J,X,e,k1,Y,r⟩
 ·simp only[Value.slice.injEq]at e;obtain⟨rfl, -,rfl⟩:=e;simp only[List.length_nil]at U;exact .inl ⟨by simp,by rw[show q - o=0 by omega,Nat.zero_sub];cases o<;>rfl⟩
 ·simp only[Value.slice.injEq]at e;obtain⟨rfl, -,rfl⟩:=e;by_cases I:c=o
  ·rw[if_pos I];exact .inr ⟨J,c - o,by rw[D],by rw[D];omega,by omega,.inl (List.eq_nil_of_length_eq_zero (by omega))⟩
  ·rw[if_neg I];refine .inr ⟨J.add o,c - o,by rw[D];rfl,by rw[D];omega,by omega,?_⟩;by_cases G:(zs.drop o).take (q - o)=[]
   ·exact .inl G
   rcases r with r|⟨b,off,rfl,r,O⟩
   ·rw[r]at G;simp at G
   ·refine .inr ⟨b,off+o,Go.WideShapes.add_plain _ _ _,r,fun i q=>?_⟩;rw[D]at q;rw[show off+o+i=off+(o+i) by omega,O (o+i) (by omega)];simp[qr,Lg,List.getElem?_take,List.getElem?_drop,q]
theorem jj {n:Nat}(zs:List Int)(q:1≤n):(yV n zs).length=lvs zs.length n:=by
 unfold yV lvs;split
 ·rename_i h;subst h;simp[qR]
 ·rename_i h;have o:=List.length_pos_iff.2 h;rw[Qu];have:=jm (d:=n) (show 1≤zs.length from o)
  omega
theorem qgz {t:TreeV}{zs:List Int}(U:t.err zs.length=0)(r:1≤t.ln){i:Nat}(q:i<(yV t.ln zs).length):
  t.there zs.length ((0:Nat):Int) i∧ ∃a b,t.spot zs.length 0 i=⟨0,i,a,b,decide (i+1=(yV t.ln zs).length),false⟩∧a≤b∧b≤zs.length∧qK (yV t.ln zs) i=(zs.drop a).take (b - a):=by
 have I:=qM U;have J:=jj zs r;have D:=I.first
 have Z:=I.len;refine⟨⟨by omega,by show 0<_;omega,by show i<nth _ 0;rw[D];omega⟩,?_⟩;unfold TreeV.spot QT;rw[if_neg (by omega)];simp only[if_true];have o:qK (yV t.ln zs) i=(zs.drop (i*t.ln)).take t.ln:=by
  unfold yV at q⊢;split
  ·rename_i h;subst h;have:i=0:=by simp at q;omega
   subst this;simp[qK]
  ·rename_i h;rw[if_neg h,Qu]at q;simp[qK,z9,ZL,Lg,List.getElem?_map,q]
 have G:i*t.ln≤zs.length:=J9 r (by omega);by_cases h:i=nth (t.rowsOf zs.length) 0 - 1
 ·rw[if_pos h];refine⟨i*t.ln,zs.length,?_,G,Nat.le_refl _,?_⟩
  ·rw[decide_eq_true (by rw[D]at h;omega)]
  ·rw[o];have Y:(zs.drop (i*t.ln)).length=zs.length - i*t.ln:=by simp
   have X:zs.length - i*t.ln≤t.ln:=by
    have O:qR zs.length t.ln≤i+1:=by
     rw[D]at h;unfold lvs at h J;omega
    have:=JS r O
    rw[Nat.add_mul,Nat.one_mul]at this;omega
   rw[List.take_of_length_le (by omega),List.take_of_length_le (by omega)]
 ·rw[if_neg h];have V:i+1<lvs zs.length t.ln:=by rw[D]at h;omega
  refine⟨i*t.ln,(i+1)*t.ln,?_,Nat.mul_le_mul_right _ (by omega),J9 r V,?_⟩
  ·rw[decide_eq_false (by omega)]
  ·rw[o,Nat.add_mul,Nat.one_mul,Nat.add_sub_cancel_left]
theorem qbn {t:TreeV}{o z1 z2:List Int}{w:World}(h:TreeOk t o z1 z2 w){row at_:Nat}(Y:row≤255)(ha:at_<281474976710656)(la rt:Bool)(ds:List Int)(q D r:Value)(W:World)(b:Nat)
  (Z:W.ownsRow b 5 1 D (mB t.big) ((t.blk z1 z2 row at_).map qt)) (J:Hold W r (Za row o)) (I:Hold W q ds) (hl:ds.length≤1073741824):
  Calls Tryz.prog 85 #[.agg (yW t.k D r la (t.outN rt) q)] W fun e w'=> ∃u,e= .returned (.tuple #[u,.int .i64 0])∧OwnB W.heap.size w' u (t.node o z1 z2 row at_ la rt ds)∧Below W.heap.size W w':=by
 obtain⟨X,O,V,U⟩:=h.okD Y ha;rw[←YJ h.v];have h5:=U rt;refine(qbt t.big _ _ ds la _ D r q W (Qq Z V) J I (by omega) X O (by omega)).mono ?_;rintro e w' ⟨⟨u,rfl,hu⟩,G⟩
 exact⟨u,rfl,⟨yQ t o z1 z2 row at_ la rt ds,hu⟩,G⟩
theorem qiB {t:TreeV}{o z1 z2:List Int}{w W:World}(h:TreeOk t o z1 z2 w)(row:Nat)(q:Below w.heap.size w W)(B:Nat):KeepH w B W (qdl row (.slice t.ka t.kl t.kc)) (Za row o)∧ ∃a n c,qdl row (.slice t.ka t.kl t.kc)= .slice a n c:=by
 unfold qdl Za;split
 ·exact⟨.inr ⟨h.k,q⟩,_,_,_,rfl⟩
 ·exact⟨.inl ⟨fun _ h=>by simp at h,.inl ⟨rfl,rfl⟩⟩,_,_,_,rfl⟩
theorem qd9 (t:TreeV)(U z1 z2 zs:List Int)(v:Value)(w0 w:World)(h:TreeOk t U z1 z2 w0)(he:t.err zs.length=0)(hv:Hold w0 v zs)(hw:Below w0.heap.size w0 w)(hn:zs.length≤4194304):
  Calls Tryz.prog 64 #[t.val,v] w fun e w'=> ∃cv u,e= .returned (.tuple #[cv,u])∧CallsO w0 w.heap.size w' cv (t.rowC U z1 z2 0 false (yV t.ln zs) (yV t.ln zs).length)∧ListO w.heap.size w' u (t.rowZ U z1 z2 0 false (yV t.ln zs) (yV t.ln zs).length)∧Below w.heap.size w w':=by
 obtain⟨Y,an⟩:=Ex w.heap.size;have bU:w0.heap.size≤Y:=by have:=hw.size;omega
 have HW:=hid hw;have HT:=hid h;have HV:=hid hv;obtain⟨ib,bF,bE,b9,bW⟩:=info_parts yH;obtain⟨ic,bX,ca,b3,b7⟩:=info_parts qae;have bc:=fun W:World=>JD t h.l zs.length (by omega) he W
 have aU:=hid bc;obtain⟨va,O,rfl,cg,ch⟩:=hv.slice;have bm:Below Y w (w.alloc (.cells #[.int .i64 t.k,.int .i64 t.d,.int .i64 t.f,.int .i64 t.p,.int .u32 t.l,.int .i64 t.i,.slice t.ka t.kl t.kc,.slice t.sa t.sl t.sc,.slice t.pa t.pl t.pc] 26)):=by rw[←an];exact Br.alloc Nl _
 have am:=Wn w (.cells #[.int .i64 t.k,.int .i64 t.d,.int .i64 t.f,.int .i64 t.p,.int .u32 t.l,.int .i64 t.i,.slice t.ka t.kl t.kc,.slice t.sa t.sl t.sc,.slice t.pa t.pl t.pc] 26);rw[an]at am;have aw:1≤t.ln:=(Qx h.l he).1;have al:=jj zs aw;have cf:=qbN zs aw;have b8:=hid (fun i=>qem (n:=t.ln) zs i);have bK:=hid (fun i hi=>qgz (i:=i) he aw hi);rw[←al]at aU;have HE:=hid he;have cb:=hid (fun(W:World) (i:Nat)=>yC t h.l zs.length (by omega) ((0:Nat):Int) i W);generalize yV t.ln zs=L at*;clear h hv aw hw al bc he;unfold TreeV.val at*;go_enter Tryz.func64,Tryz.ntmps64
 go_upto_region 1 with(fail)
 generalize w.alloc (.cells #[.int .i64 t.k,.int .i64 t.d,.int .i64 t.f,.int .i64 t.p,.int .u32 t.l,.int .i64 t.i,.slice t.ka t.kl t.kc,.slice t.sa t.sl t.sc,.slice t.pa t.pl t.pc] 26)=wA at*;have ct:IntKind.u64.wrap (zs.length:Int)=(zs.length:Int):=u64_wrap_id _ (by omega) (by omega);go_wp2_with ((with_reducible show wpList _ _ _ (Oper.mk _ (Op.load 26 _) _ _ _ _::_) _ _);refine wpList_load_row rfl 26 _ rfl Y rfl _ _ _ _ am Tryz.underlying26 rfl (by kernel_rfl) ?_)
 refine(aU.out wA).mono ?_;rintro e w3 ⟨rfl,aT⟩;have be:=hid (qg am aT);have bh:=hid (bm.trans (aT.mono (show Y≤wA.heap.size by have:=(Ai am).1;omega)));have bV:Y<w3.heap.size:=(Ai be.out).1;obtain⟨I,bN⟩:=Ex w3.heap.size;have ce:Y<I:=by omega
 clear aT am bm aU bV;go_wp2_with fail
 go_loopw [9,10,11] (fun s u i wr=> ∃j:Nat,i= .int .u64 (j:Nat)∧j≤L.length∧CallsO w0 I wr s (t.rowC U z1 z2 0 false L j)∧ListO I wr u (t.rowZ U z1 z2 0 false L j)∧Below I w3 wr) (fun _ _ i _=>L.length - (intOf i).toNat)
 case atStart=>exact⟨0,rfl,Nat.zero_le _,CallsO.nil _ _ _,ListO.nil _ _,Below.refl _ _⟩
 case round=>
  obtain⟨j,rfl,hj,Z,ho,hb⟩:=hrel;by_cases bI:j<L.length
  case pos=>
   have cc:(j:Int)<L.length:=by omega
   have cq:(L.length:Int)≤16777216:=by omega
   obtain⟨ay,a,b,aJ,bO,bH,bp⟩:=bK.out j bI;have ae:=hid (fun W:World=>cb.out W j);have bo:t.spotR zs.length ((0:Nat):Int) j=⟨0,j,a,b,decide (j+1=L.length),false⟩:=by unfold TreeV.spotR;rw[if_pos ⟨HE.out,ay⟩];exact aJ
   have bu:t.spotE zs.length ((0:Nat):Int) j=0:=by unfold TreeV.spotE;rw[if_neg (by simp[HE.out]),if_pos ay]
   rw[bo,bu]at ae;unfold SpotV.val at ae;simp only at ae
   have bt:=hid ay;have aq:=hid aJ;have bY:=hid bp;obtain⟨J,aV⟩: ∃q:Bool,decide (j+1=L.length)=q:=⟨_,rfl⟩;rw[aV]at ae aq;have bn:=hid aV;have aL:wr.heap[Y]? =some (.cells #[.int .i64 t.k,.int .i64 t.d,.int .i64 t.f,.int .i64 t.p,.int .u32 t.l,.int .i64 t.i,.slice t.ka t.kl t.kc,.slice t.sa t.sl t.sc,.slice t.pa t.pl t.pc] 26 (0,0)):=qg be.out (bN▸hb);have bT:=hid (show Below w0.heap.size w0 wr from HW.out.trans ((bh.out.trans (hb.mono (by omega))).mono bU));have aG:I≤wr.heap.size:=by have:=hb.size;omega
   have cd:IntKind.u64.wrap ((j:Int)+1)=((j+1:Nat):Int):=u64_wrap_id _ (by omega) (by omega);have bd:=hid Z;have HO:=hid ho;have HB:=hid hb;clear ay aJ bp aV bo bu Z ho hb;go_wp2_with ((with_reducible show wpList _ _ _ (Oper.mk _ (Op.load 26 _) _ _ _ _::_) _ _);refine wpList_load_row rfl 26 _ rfl Y rfl _ _ _ _ aL Tryz.underlying26 rfl (by kernel_rfl) ?_)
   refine(ae.out wr).mono ?_;rintro e w4 ⟨rfl,aD⟩;have bw:=hid aD;have bM:=aD.size;have bf:=qg aL aD;clear aD;go_upto_region 9 with(first|((with_reducible show wpList _ _ _ (Oper.mk none (Op.store 96 _ _) _ _ _ _::_) _ _);refine wpList_store_row rfl 96 _ _ rfl w4.heap.size #[.int .i64 0,.int .u64 (j:Nat),.int .u64 (a:Nat),.int .u64 (b:Nat),.bool J,.bool false] rfl rfl 96 _ (Wn _ _) (by kernel_rfl) rfl (by simp[Value.oneCell']) ?_))
   refine qn ?_;intro V hV;obtain⟨bs,aA⟩:=Ex w4.heap.size;have aB:V.heap[bs]? =some (.cells #[.int .i64 0,.int .u64 (j:Nat),.int .u64 (a:Nat),.int .u64 (b:Nat),.bool J,.bool false] 96 (0,0)):=by rw[hV,←aA];exact setRow_heap _ _ _ _ _ _ (Wn _ _)
   have aH:Below bs w4 V:=by rw[hV,←aA];exact below_setRow (Br.alloc Nl _) Nl _
   rw[aA];have bg:V.heap[Y]? =some (.cells #[.int .i64 t.k,.int .i64 t.d,.int .i64 t.f,.int .i64 t.p,.int .u32 t.l,.int .i64 t.i,.slice t.ka t.kl t.kc,.slice t.sa t.sl t.sc,.slice t.pa t.pl t.pc] 26 (0,0)):=(aH.block Y (by omega)).trans bf;have av:Below wr.heap.size wr V:=bw.out.trans (aH.mono (by omega));have ag:=hid av;have ad:=hid (bT.out.trans (av.mono (show w0.heap.size≤wr.heap.size by omega)));have bG:w0.heap.size≤V.heap.size:=ad.out.size;have cn:bs<V.heap.size:=(Ai aB).1;obtain⟨A,G⟩: ∃A,(if O=a then va else va.map (·.add a))=A:=⟨_,rfl⟩;have a3:Hold w0 (.slice A (b - a) (O - a)) (qK L j):=by rw[bY.out,←G];exact qhH HV.out bO bH
   have bj:=hid a3;have bq:=hid G;have aX:=hid (fun(W:World) (hb:Below w0.heap.size w0 W)=>Z7 t zs.length HE.out HT.out.l (by omega) z1 z2 0 j (by omega) (by omega) bt.out _ aq.out A (b - a) (O - a) W (HT.out.s.below hb) (HT.out.p.below hb));unfold TreeV.val at aX;clear a3 G av aH hV bw bf aL bM aA;refine qE (n:=11) (w0:=V) (B:=V.heap.size) [.v 38 (.agg #[.int .i64 t.k,.int .i64 t.d,.int .i64 t.f,.int .i64 t.p,.int .u32 t.l,.int .i64 t.i,.slice t.ka t.kl t.kc,.slice t.sa t.sl t.sc,.slice t.pa t.pl t.pc]),.v 39 (.int .u64 (zs.length:Nat)),.v 40 (.int .u64 (j:Nat)),.v 41 (.slice va zs.length O),.v 42 (.pointer (some ⟨bs,2,none⟩)),.v 43 (.int .u64 (a:Nat)),.v 44 (.pointer (some ⟨bs,3,none⟩)),.v 45 (.int .u64 (b:Nat)),.v 46 (.slice A (b - a) (O - a)),.p 47 (fun u W=> ∃bv,u= .agg (yW t.k bv (qdl 0 (.slice t.ka t.kl t.kc)) J (t.outN false) (.slice A (b - a) (O - a)))∧W.ownsRow V.heap.size 5 1 bv (mB t.big) ((t.blk z1 z2 0 j).map qt)),.p 14 (fun u W=> ∃p,u= .pointer (some ⟨p,0,none⟩)∧V.heap.size≤p∧W.heap[p]? =some (.cells #[.int .i64 0,.slice none 0 0,.slice none 0 0,.bool false,.int .i64 0,.slice none 0 0] 73 (0,0)))] (by exact⟨(fun _ _ _ h hb=>by obtain⟨r,e,h⟩:=h;exact⟨r,e,qi h (fun g _ hg=>hb.block g hg)⟩),(fun _ _ _ h hb=>by obtain⟨p,e,h3,h4⟩:=h;exact⟨p,e,h3,qg h4 hb⟩),trivial⟩) Br.drew Nl ?_ ?_
   ·repeat' (with_reducible first|exact qz|refine qx ?_ ?_)
    ·intro AA x W G hW aa o D K hK;have a2:=G.2 2 (by decide);conv at a2=>rhs;whnf
     clear o G;exact wp_load_row 26 _ rfl Y a2 _ _ _ _ (qg bg hW) Tryz.underlying26 rfl (by kernel_rfl) (hK _ _ Br rfl)
    all_goals try
     intro AA x W G hW aa o D K hK;have a1:=G.2 1 (by decide);conv at a1=>rhs;whnf
     have a6:=G.2 6 (by decide);conv at a6=>rhs;whnf
     have bR:=G.2 11 (by decide);conv at bR=>rhs;whnf
     have b6:=G.2 12 (by decide);conv at b6=>rhs;whnf
     simp only[QW,Q8]at D;clear o G;first
     | go_simp
       exact hK _ _ BR rfl
     | have y0:W.cell? ⟨bs,2,none⟩=some (.int .u64 (a:Nat)):=qd (qg aB hW) 2
       have y1:W.cell? ⟨bs,3,none⟩=some (.int .u64 (b:Nat)):=qd (qg aB hW) 3;have y2:bs<W.heap.size:=by omega
       go_simp
       exact hK _ _ BR rfl
    ·intro AA x W G hW aa o _ K hK;have cB:=gv G o 3 41;have cA:=gv G o 5 43;have cp:=gv G o 7 45;clear o G;have y5:b≤O:=by omega
     go_simp
     rw[bq.out];exact hK _ _ BR rfl
    ·intro AA x W G hW aa o _ K hK;have cz:=gv G o 0 38;have cj:=gv G o 1 39;have cr:=gv G o 2 40;have cu:=gv G o 8 46;clear o G;go_simp
     refine(aX.out W (ad.out.trans (hW.mono (by omega)))).mono ?_;rintro e w5 ⟨bv,rfl,ak,ac⟩;exact hK _ _ ac ⟨bv,rfl,ownsRow_le ak aa⟩
    ·intro AA x W G hW aa o _ K hK;clear o G;go_simp
     exact hK _ _ (Br.alloc Nl _) ⟨W.heap.size,rfl,aa,Wn W _⟩
   intro x W hW aa bz;obtain⟨af,bi, -⟩:=bz;change (fun u W=> ∃bv,u= .agg (yW t.k bv (qdl 0 (.slice t.ka t.kl t.kc)) J (t.outN false) (.slice A (b - a) (O - a)))∧W.ownsRow V.heap.size 5 1 bv (mB t.big) ((t.blk z1 z2 0 j).map qt)) (x 47) W at af
   change (fun u W=> ∃p,u= .pointer (some ⟨p,0,none⟩)∧V.heap.size≤p∧W.heap[p]? =some (.cells #[.int .i64 0,.slice none 0 0,.slice none 0 0,.bool false,.int .i64 0,.slice none 0 0] 73 (0,0))) (x 14) W at bi
   obtain⟨bv,af,ak⟩:=af;obtain⟨p,ep,b4,ax⟩:=bi;obtain⟨a5,n5,k5,rfl⟩:=qs ak;obtain⟨a4,a6,n6,k6,e6⟩:=qiB HT.out 0 (ad.out.trans (hW.mono (by omega))) I;rw[e6]at af a4;refine qp ?_;simp only[QF,Act.put,Ls,ep,af];refine wpList_store_row rfl 73 _ _ rfl p (yW t.k (.slice a5 n5 k5) (.slice a6 n6 k6) J (t.outN false) (.slice A (b - a) (O - a))) rfl rfl 73 _ ax (by kernel_rfl) rfl (by simp[Value.oneCell',yW]) ?_;refine qw ?_;have aC:=hid (setRow_heap W p _ (yW t.k (.slice a5 n5 k5) (.slice a6 n6 k6) J (t.outN false) (.slice A (b - a) (O - a))) _ _ ax);have ap:=hid (below_setRow hW b4 (yW t.k (.slice a5 n5 k5) (.slice a6 n6 k6) J (t.outN false) (.slice A (b - a) (O - a))));have az:=hid (Qd (cs:=yW t.k (.slice a5 n5 k5) (.slice a6 n6 k6) J (t.outN false) (.slice A (b - a) (O - a))) ak ax (by decide));generalize W.setRow p (yW t.k (.slice a5 n5 k5) (.slice a6 n6 k6) J (t.outN false) (.slice A (b - a) (O - a)))=X at aC ap az⊢;clear hW aa ax ak a4 ep af aX;have ck:=ap.out.size;have ar:=hid (ad.out.trans (ap.out.mono bG));have ah:=hid (ag.out.trans (ap.out.mono (show wr.heap.size≤V.heap.size by have:=ag.out.size;omega)));have bk:KeepH w0 I X (.slice a6 n6 k6) (Za 0 U):=by rw[←e6];exact(qiB HT.out 0 ar.out I).1
   have aM:=hid bk;have aW:=hid (show KeepH w0 I X (.slice A (b - a) (O - a)) (qK L j) from .inr ⟨bj.out,ar.out⟩);clear bk;unfold yW at aC;go_wp2_with ((with_reducible show wpList _ _ _ (Oper.mk _ (Op.load 73 _) _ _ _ _::_) _ _);refine wpList_load_row rfl 73 _ rfl p rfl _ _ _ _ aC.out Tryz.underlying73 rfl (by kernel_rfl) ?_)
   refine(qbn HT.out (row:=0) (at_:=j) (by omega) (by omega) J false (qK L j) (.slice A (b - a) (O - a)) (.slice a5 n5 k5) (.slice a6 n6 k6) X _ az.out aM.out.hold aW.out.hold (by have:=b8.out j;omega)).mono ?_;rintro e w5 ⟨u,rfl,hO,ac⟩;obtain⟨a7,k7,rfl, -, -⟩:=hO.hold.slice;have co:=ac.size;have aR:I≤X.heap.size:=by have:=ah.out.size;omega
   have aK:=hid (KB.of_below ac aR);have br:=qg aC.out ac;have bP:=hid (hO.le aR);have ao:=hid (ah.out.trans (ac.mono (show wr.heap.size≤X.heap.size from ah.out.size)));have bQ:=hid (show CallAt w0 I w5 (t.callS U z1 z2 0 j J false (qK L j)) [.int .i64 t.k,.slice a5 n5 k5,.slice a6 n6 k6,.bool J,.int .i64 (t.outN false),.slice A (b - a) (O - a)] from
    ⟨_,_,_,_,_,_,_,_,_,rfl,⟨(HT.out.okD (row:=0) (at_:=j) (by omega) (by omega)).2.2.1,(yI (ownsRow_le az.out (show I≤V.heap.size by have:=ag.out.size;omega))).kb aK.out⟩,aM.out.kb (by omega) aK.out,aW.out.kb (by omega) aK.out⟩)
   obtain⟨cs,al,Z,aP⟩:=bd.out;obtain⟨vs,aj,aQ⟩:=HO.out;rw[qQ]at al Z aP;rw[TreeV.rowZ_length]at aj aQ;have bJ:vs.length=j:=by have:=aj.1;omega
   have aE:=hid (KB.of_below ao.out aG);have b5:=hid (fun i hi=>(aP i hi).kb (show w0.heap.size≤I by omega) aE.out);have bC:=hid (fun i hi=>(aQ i hi).kb aE.out);have aF:=hid (qi Z (fun g _ g2=>ao.out.block g g2));have aN:=hid (qi aj (fun g _ g2=>ao.out.block g g2));obtain⟨a8,n8,k8,rfl⟩:=Qg Z;obtain⟨a9,n9,k9,rfl⟩:=qs aj;have bl:t.node U z1 z2 0 j J false (qK L j)=t.node U z1 z2 0 j (decide (j+1=L.length)) false (qK L j):=by rw[bn.out]
   have aZ:t.callS U z1 z2 0 j J false (qK L j)=t.callS U z1 z2 0 j (decide (j+1=L.length)) false (qK L j):=by rw[bn.out]
   have bS:=hid bl;have bD:=hid aZ;generalize t.node U z1 z2 0 j J false (qK L j)=N at*;generalize t.callS U z1 z2 0 j J false (qK L j)=C at*;have ci:=ao.out.size;have cx:p<w5.heap.size:=(Ai br).1;clear ac hO bl aZ Z aP aj aQ aM aW az ap bd HO ah ar ag ad bj bq aq bt ae aB bg;go_upto_region 12 with(first|((with_reducible show wpList _ _ _ (Oper.mk _ (Op.load 73 _) _ _ _ _::_) _ _);refine wpList_load_row rfl 73 _ rfl p rfl _ _ _ _ br Tryz.underlying73 rfl (by kernel_rfl) ?_)|((with_reducible show wpList _ _ _ (Oper.mk _ (Op.buildSlice _ _ _) _ _ _ _::_) _ _);refine jV rfl _ rfl _ _ _ _ _ _ rfl ?_)|(at_builtin;refine QS rfl _ _ _ rfl I 73 (by decide) ic _ 6 96 Tryz.underlying111 bX ca b3 b7 rfl (by decide) (.slice a8 n8 k8) j cs.flatten [.int .i64 t.k,.slice a5 n5 k5,.slice a6 n6 k6,.bool J,.int .i64 (t.outN false),.slice A (b - a) (O - a)] _ rfl aF.out rfl rfl (by simp[Value.oneCell']) (by unfold maxLen;omega) (by omega) (by omega) ?_;intro v' w' ab ai aO))
   have aI:=hid (qF aN.out (yg aF.out aN.out (by decide) aO));have bZ:=hid (show CallsO w0 I w' v' (t.rowC U z1 z2 0 false L (j+1)) from by
    rw[zg,←bD.out];refine CallsO.snoc (w:=w5) (cs:=cs) (fun i hi=>?_) (by rw[qQ];exact al) bQ.out (by rw[qQ];exact ab) (by omega) ai;rw[qQ]at hi;exact b5.out i hi)
   have aS:=hid ai;have cy:=ai.size;obtain⟨cw,cm,cl,rfl⟩:=Qg ab;have bA:=hid ab;clear ab ai aO;go_wp2_with (first|((with_reducible show wpList _ _ _ (Oper.mk _ (Op.buildSlice _ _ _) _ _ _ _::_) _ _);refine QG rfl _ rfl _ _ _ rfl ?_)|(at_builtin;refine QS rfl _ _ _ rfl I 24 (by decide) ib (.slice none 0 0) 1 24 Tryz.underlying67 bF bE b9 bW rfl (by decide) (.slice a9 n9 k9) j vs [.slice a7 N.length k7] _ rfl aI.out rfl rfl (by simp[Value.oneCell']) (by unfold maxLen;omega) (by omega) (by omega) ?_;intro v7 w7 aY au bx))
   refine⟨⟨j+1,rfl,by omega,?_,?_,(HB.out.trans (ao.out.mono aG)).trans ((aS.out.trans au).below)⟩,by simp[intOf];omega⟩
   ·exact bZ.out.kb (by omega) au (yg aI.out bA.out (by decide) bx)
   ·rw[zf,←bS.out];refine ListO.snoc (w:=w') (vs:=vs) (x:= .slice a7 N.length k7) (fun i hi=>?_) (by rw[TreeV.rowZ_length];exact bJ) (bP.out.kb aS.out) (by rw[TreeV.rowZ_length];exact aY) au;rw[TreeV.rowZ_length]at hi;exact(bC.out i hi).kb aS.out
  obtain rfl:j=L.length:=by omega
  have HO:=hid (ho.le (show Y≤I by omega));have HC:=hid (Z.le (show Y≤I by omega));have HB:=hid (bh.out.trans (hb.mono (show Y≤I by omega)));obtain⟨cs, -,ba, -⟩:=Z;obtain⟨vs,bb, -⟩:=ho;obtain⟨a8,n8,k8,rfl⟩:=Qg ba;obtain⟨a9,n9,k9,rfl⟩:=qs bb;clear hb ba bb;go_wp2
  go_ret2
  exact⟨_,_,rfl,by rw[an];exact HC.out,by rw[an];exact HO.out,by rw[an];exact HB.out⟩
end Go.Proofs.YthjoojnlnlmljaaGreat
