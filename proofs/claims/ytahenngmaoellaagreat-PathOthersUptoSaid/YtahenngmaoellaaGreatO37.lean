/- Lemmas. No condition. -/
import Derived.Test.YtahenngmaoellaaGreatO35
import Derived.Test.YtahenngmaoellaaGreatO36
set_option linter.all false
set_option maxRecDepth 100000
set_option maxHeartbeats 0
namespace Go.Proofs.YtahenngmaoellaaGreat
open Go.ChangeShapes Go.WideShapes Go.ChangeAt Go.RowKit Go.Joins Go.Shelf Go.Maps
open Go.Lib (hid)
variable{n:Nat}{zs kz z1 z2:List Int}{t:TreeV}
attribute [local go_sem] Oper.semAt_some
theorem qfl {w:World}{a:Option Addr}{c lo hi:Nat}(h:Hold w (.slice a n c) zs)(V:lo<=hi)(O:hi<=zs.length):Hold w (.slice (if c=lo then a else a.map (·.add lo)) (hi - lo) (c - lo)) ((zs.drop lo).take (hi - lo)):=by
 refine⟨fun z I=>h.1 z (List.mem_of_mem_drop (List.mem_of_mem_take I)),?_⟩;have o:((zs.drop lo).take (hi - lo)).length=hi - lo:=by simp;omega
 rcases h.2 with⟨rfl,e⟩|⟨D,S,e,X,U,q⟩
 ·simp only[Value.slice.injEq]at e;obtain⟨rfl, -,rfl⟩:=e;simp only[List.length_nil]at O;exact .inl ⟨by simp,by rw[show hi - lo=0 by omega,Nat.zero_sub];cases lo<;>rfl⟩
 ·simp only[Value.slice.injEq]at e;obtain⟨rfl, -,rfl⟩:=e;by_cases G:c=lo
  ·rw[if_pos G];exact .inr ⟨D,c - lo,by rw[o],by rw[o];omega,by omega,.inl (List.eq_nil_of_length_eq_zero (by omega))⟩
  ·rw[if_neg G];refine .inr ⟨D.add lo,c - lo,by rw[o];rfl,by rw[o];omega,by omega,?_⟩;by_cases r:(zs.drop lo).take (hi - lo)=[]
   ·exact .inl r
   rcases q with q|⟨b,off,rfl,q,J⟩
   ·rw[q]at r;simp at r
   ·refine .inr ⟨b,off+lo,Go.WideShapes.add_plain _ _ _,q,fun i hi=>?_⟩;rw[o]at hi;rw[show off+lo+i=off+(lo+i) by omega,J (lo+i) (by omega)];simp[qo,Lg,List.getElem?_take,List.getElem?_drop,hi]
theorem zF (zs:List Int)(q:1<=n):(QH n zs).length=lvs zs.length n:=by
 unfold QH lvs;split
 ·rename_i h;subst h;simp[qP]
 ·rename_i h;have o:=List.length_pos_iff.2 h;rw[Qx];have:=ZQ (d:=n) (show 1<=zs.length from o)
  omega
theorem qhT (O:t.err zs.length=0)(q:1<=t.ln){i:Nat}(hi:i<(QH t.ln zs).length):
  t.there zs.length ((0:Nat):Int) i/\ ∃a b,t.spot zs.length 0 i=⟨0,i,a,b,decide (i+1=(QH t.ln zs).length),false⟩/\a<=b/\b<=zs.length/\qC (QH t.ln zs) i=(zs.drop a).take (b - a):=by
 have G:=qG O;have I:=zF zs q;have r:=G.first
 have X:=G.len;refine⟨⟨by omega,by show 0<_;omega,by show i<nth _ 0;rw[r];omega⟩,?_⟩;unfold TreeV.spot QZ;rw[if_neg (by omega)];simp only[if_true];have o:qC (QH t.ln zs) i=(zs.drop (i*t.ln)).take t.ln:=by
  unfold QH at hi⊢;split
  ·rename_i h;subst h;have:i=0:=by simp at hi;omega
   subst this;simp[qC]
  ·rename_i h;rw[if_neg h,Qx]at hi;simp[qC,Zb,piece,Lg,List.getElem?_map,hi]
 have D:i*t.ln<=zs.length:=qaD q (by omega);by_cases h:i=nth (t.rowsOf zs.length) 0 - 1
 ·rw[if_pos h];refine⟨i*t.ln,zs.length,?_,D,Nat.le_refl _,?_⟩
  ·rw[decide_eq_true (by rw[r]at h;omega)]
  ·rw[o];have V:(zs.drop (i*t.ln)).length=zs.length - i*t.ln:=by simp
   have U:zs.length - i*t.ln<=t.ln:=by
    have S:qP zs.length t.ln<=i+1:=by
     rw[r]at h;unfold lvs at h I;omega
    have:=Jj q S
    rw[Nat.add_mul,Nat.one_mul]at this;omega
   rw[List.take_of_length_le (by omega),List.take_of_length_le (by omega)]
 ·rw[if_neg h];have J:i+1<lvs zs.length t.ln:=by rw[r]at h;omega
  refine⟨i*t.ln,(i+1)*t.ln,?_,Nat.mul_le_mul_right _ (by omega),qaD q J,?_⟩
  ·rw[decide_eq_false (by omega)]
  ·rw[o,Nat.add_mul,Nat.one_mul,Nat.add_sub_cancel_left]
theorem qbZ {w:World}(h:TreeOk t kz z1 z2 w){row at_:Nat}(D:row<=255)(Y:at_<281474976710656)(la rt:Bool)(ds:List Int)(r o q:Value)(W:World)(b:Nat)
  (I:W.ownsRow b 5 1 o (mB t.big) ((t.blk z1 z2 row at_).map qp)) (O:Hold W q (yV row kz)) (J:Hold W r ds) (hl:ds.length<=1073741824):
  Calls Tryz.prog 89 #[.agg (Yf t.k o q la (t.outN rt) r)] W fun e w'=> ∃u,e= .returned (.tuple #[u,.int .i64 0])/\OwnB W.heap.size w' u (t.node kz z1 z2 row at_ la rt ds)/\Below W.heap.size W w':=by
 obtain⟨X,S,G,Z⟩:=h.okD D Y;rw[<-yX h.v];have h5:=Z rt;refine(qge t.big _ _ ds la _ o q r W (Qf I G) O J (by omega) X S (by omega)).mono ?_;rintro e w' ⟨⟨u,rfl,U⟩,V⟩
 exact⟨u,rfl,⟨yF t kz z1 z2 row at_ la rt ds,U⟩,V⟩
theorem qjZ {w W:World}(h:TreeOk t kz z1 z2 w)(row:Nat)(o:Below w.heap.size w W)(B:Nat):KeepH w B W (qeb row (.slice t.ka t.kl t.kc)) (yV row kz)/\ ∃a n c,qeb row (.slice t.ka t.kl t.kc)= .slice a n c:=by
 unfold qeb yV;split
 ·exact⟨.inr ⟨h.k,o⟩,_,_,_,rfl⟩
 ·exact⟨.inl ⟨fun _ h=>by simp at h,.inl ⟨rfl,rfl⟩⟩,_,_,_,rfl⟩
theorem qfe (t:TreeV)(kz z1 z2 zs:List Int)(v:Value)(w0 w:World)(h:TreeOk t kz z1 z2 w0)(he:t.err zs.length=0)(hv:Hold w0 v zs)(hw:Below w0.heap.size w0 w)(hn:zs.length<=4194304):
  Calls Tryz.prog 68 #[t.val,v] w fun e w'=> ∃cv u,e= .returned (.tuple #[cv,u])/\CallsO w0 w.heap.size w' cv (t.rowC kz z1 z2 0 false (QH t.ln zs) (QH t.ln zs).length)/\ListO w.heap.size w' u (t.rowZ kz z1 z2 0 false (QH t.ln zs) (QH t.ln zs).length)/\Below w.heap.size w w':=by
 obtain⟨U,ai⟩:=Ex w.heap.size;have bH:w0.heap.size<=U:=by have:=hw.size;omega
 have HW:=hid hw;have HT:=hid h;have HV:=hid hv;obtain⟨ib,bO,b4,bX,bR⟩:=info_parts Yn;obtain⟨ic,bI,bD,bT,bP⟩:=info_parts qaH;have bl:=fun W:World=>Z0 t h.l zs.length (by omega) he W
 have aU:=hid bl;obtain⟨va,J,rfl,cb,cd⟩:=hv.slice;have be:Below U w (w.alloc (.cells t.c 26)):=by rw[<-ai];exact Br.alloc Nl _
 have an:=Wn w (.cells t.c 26);rw[ai]at an;have aB:1<=t.ln:=(Qw h.l he).1;have ak:=zF zs aB;have cf:=qcq zs aB;have bY:=hid (fun i=>qfy (n:=t.ln) zs i);have bV:=hid (fun i hi=>qhT (i:=i) he aB hi);rw[<-ak]at aU;have HE:=hid he;have bQ:=hid (fun(W:World) (i:Nat)=>yQ t h.l zs.length (by omega) ((0:Nat):Int) i W);generalize QH t.ln zs=L at*;clear h hv aB hw ak bl he;unfold TreeV.val at*;go_enter Tryz.func68,Tryz.ntmps68
 go_upto_region 1 with(fail)
 generalize w.alloc (.cells t.c 26)=wA at*;have cu:IntKind.u64.wrap (zs.length:Int)=(zs.length:Int):=u64_wrap_id _ (by omega) (by omega);go_wp2_with (refine L26 U rfl an ?_)
 refine(aU.out wA).mono ?_;rintro e w3 ⟨rfl,aF⟩;have br:=hid (qf an aF);have bf:=hid (be.trans (aF.mono (show U<=wA.heap.size by have:=(Ai an).1;omega)));have bF:U<w3.heap.size:=(Ai br.out).1;obtain⟨I,bS⟩:=Ex w3.heap.size;have cg:U<I:=by omega
 clear aF an be aU bF;go_wp2_with fail
 go_loopw [9,10,11] (fun s u i wr=> ∃j:Nat,i= .int .u64 j/\j<=L.length/\CallsO w0 I wr s (t.rowC kz z1 z2 0 false L j)/\ListO I wr u (t.rowZ kz z1 z2 0 false L j)/\Below I w3 wr) (fun _ _ i _=>L.length - (intOf i).toNat)
 case atStart=>exact⟨0,rfl,Nat.zero_le _,CallsO.nil _ _ _,ListO.nil _ _,Below.refl _ _⟩
 case round=>
  obtain⟨j,rfl,hj,Y,ho,S⟩:=hrel;by_cases ca:j<L.length
  case pos=>
   have ch:(j:Int)<L.length:=by omega
   have cq:(L.length:Int)<=16777216:=by omega
   obtain⟨ay,a,b,aT,bG,b5,bj⟩:=bV.out j ca;have ad:=hid (fun W:World=>bQ.out W j);have bt:t.spotR zs.length ((0:Nat):Int) j=⟨0,j,a,b,decide (j+1=L.length),false⟩:=by unfold TreeV.spotR;rw[if_pos ⟨HE.out,ay⟩];exact aT
   have bc:t.spotE zs.length ((0:Nat):Int) j=0:=by unfold TreeV.spotE;rw[if_neg (by simp[HE.out]),if_pos ay]
   rw[bt,bc]at ad;unfold SpotV.val at ad;simp only at ad
   have bm:=hid ay;have ap:=hid aT;have bJ:=hid bj;obtain⟨O,aS⟩: ∃q:Bool,decide (j+1=L.length)=q:=⟨_,rfl⟩;rw[aS]at ad ap;have aZ:=hid aS;have aJ:wr.heap[U]? =some (.cells t.c 26 (0,0)):=qf br.out (bS▸S);have bK:=hid (show Below w0.heap.size w0 wr from HW.out.trans ((bf.out.trans (S.mono (by omega))).mono bH));have aR:I<=wr.heap.size:=by have:=S.size;omega
   have ce:IntKind.u64.wrap ((j:Int)+1)=((j+1:Nat):Int):=u64_wrap_id _ (by omega) (by omega);have a3:=hid Y;have HO:=hid ho;have HB:=hid S;clear ay aT bj aS bt bc Y ho S;go_wp2_with (refine L26 U rfl aJ ?_)
   refine(ad.out wr).mono ?_;rintro e w4 ⟨rfl,ax⟩;have bd:=hid ax;have bA:=ax.size;have bp:=qf aJ ax;clear ax;go_upto_region 9 with(first|((with_reducible show wpList _ _ _ (Oper.mk none (Op.store 96 _ _) _ _ _ _::_) _ _);refine wpList_store_row rfl 96 _ _ rfl w4.heap.size #[.int .i64 0,.int .u64 j,.int .u64 a,.int .u64 b,.bool O,.bool false] rfl rfl 96 _ (Wn _ _) (by kernel_rfl) rfl (by simp[Value.oneCell']) ?_))
   refine qm ?_;intro V hV;obtain⟨bs,az⟩:=Ex w4.heap.size;have aA:V.heap[bs]? =some (.cells #[.int .i64 0,.int .u64 j,.int .u64 a,.int .u64 b,.bool O,.bool false] 96 (0,0)):=by rw[hV,<-az];exact setRow_heap _ _ _ _ _ _ (Wn _ _)
   have aN:Below bs w4 V:=by rw[hV,<-az];exact below_setRow (Br.alloc Nl _) Nl _
   rw[az];have bo:V.heap[U]? =some (.cells t.c 26 (0,0)):=(aN.block U (by omega)).trans bp;have aq:Below wr.heap.size wr V:=bd.out.trans (aN.mono (by omega));have af:=hid aq;have ab:=hid (bK.out.trans (aq.mono (show w0.heap.size<=wr.heap.size by omega)));have bE:w0.heap.size<=V.heap.size:=ab.out.size;have cx:bs<V.heap.size:=(Ai aA).1;obtain⟨A,G⟩: ∃A,(if J=a then va else va.map (·.add a))=A:=⟨_,rfl⟩;have bb:Hold w0 (.slice A (b - a) (J - a)) (qC L j):=by rw[bJ.out,<-G];exact qfl HV.out bG b5
   have bn:=hid bb;have aY:=hid G;have aW:=hid (fun(W:World) (S:Below w0.heap.size w0 W)=>jA t zs.length HE.out HT.out.l (by omega) z1 z2 0 j (by omega) (by omega) bm.out _ ap.out A (b - a) (J - a) W (HT.out.s.below S) (HT.out.p.below S));unfold TreeV.val at aW;clear bb G aq aN hV bd bp aJ bA az;refine qE (n:=11) (w0:=V) (B:=V.heap.size) [.v 38 (.agg t.c),.v 39 (.int .u64 (zs.length:Nat)),.v 40 (.int .u64 j),.v 41 (.slice va zs.length J),.z 42 bs 2,.v 43 (.int .u64 a),.z 44 bs 3,.v 45 (.int .u64 b),.v 46 (.slice A (b - a) (J - a)),.p 47 (fun u W=> ∃bv,u= .agg (Yf t.k bv (qeb 0 (.slice t.ka t.kl t.kc)) O (t.outN false) (.slice A (b - a) (J - a)))/\W.ownsRow V.heap.size 5 1 bv (mB t.big) ((t.blk z1 z2 0 j).map qp)),.p 14 (fun u W=> ∃p,u= .pointer (some ⟨p,0,none⟩)/\V.heap.size<=p/\W.heap[p]? =some (.cells Ke 73 (0,0)))] (by exact⟨(fun _ _ _ h S=>by obtain⟨r,e,h⟩:=h;exact⟨r,e,qi h (fun g _ hg=>S.block g hg)⟩),(fun _ _ _ h S=>by obtain⟨p,e,h3,h4⟩:=h;exact⟨p,e,h3,qf h4 S⟩),trivial⟩) Br.drew Nl ?_ ?_
   ·repeat' (with_reducible first|exact qz|refine qx ?_ ?_)
    ·intro AA x W G hW Z o D K hK;have a2:=G.2 2 (by decide);conv at a2=>rhs;whnf
     clear o G;exact wp_load_row 26 _ rfl U a2 _ _ _ _ (qf bo hW) Tryz.underlying26 rfl (by kernel_rfl) (hK _ _ Br rfl)
    all_goals try
     intro AA x W G hW Z o D K hK;have a1:=G.2 1 (by decide);conv at a1=>rhs;whnf
     have a6:=G.2 6 (by decide);conv at a6=>rhs;whnf
     have b6:=G.2 11 (by decide);conv at b6=>rhs;whnf
     have bM:=G.2 12 (by decide);conv at bM=>rhs;whnf
     simp only[QS,yc]at D;clear o G;first
     | go_simp
       exact hK _ _ BR rfl
     | have y0:W.cell? ⟨bs,2,none⟩=some (.int .u64 a):=qd (qf aA hW) 2
       have y1:W.cell? ⟨bs,3,none⟩=some (.int .u64 b):=qd (qf aA hW) 3;have y2:bs<W.heap.size:=by omega
       go_simp
       exact hK _ _ BR rfl
    ·intro AA x W G hW Z o _ K hK;have cw:=gv G o 3 41;have cj:=gv G o 5 43;have cr:=gv G o 7 45;clear o G;have y5:b<=J:=by omega
     go_simp
     rw[aY.out];exact hK _ _ BR rfl
    ·intro AA x W G hW Z o _ K hK;have ct:=gv G o 0 38;have cA:=gv G o 1 39;have cl:=gv G o 2 40;have cy:=gv G o 8 46;clear o G;go_simp
     refine(aW.out W (ab.out.trans (hW.mono (by omega)))).mono ?_;rintro e w5 ⟨bv,rfl,al,ac⟩;exact hK _ _ ac ⟨bv,rfl,ownsRow_le al Z⟩
    ·intro AA x W G hW Z o _ K hK;clear o G;go_simp
     exact hK _ _ (Br.alloc Nl _) ⟨W.heap.size,rfl,Z,Wn W _⟩
   intro x W hW Z bw;obtain⟨ae,bg, -⟩:=bw;change (fun u W=> ∃bv,u= .agg (Yf t.k bv (qeb 0 (.slice t.ka t.kl t.kc)) O (t.outN false) (.slice A (b - a) (J - a)))/\W.ownsRow V.heap.size 5 1 bv (mB t.big) ((t.blk z1 z2 0 j).map qp)) (x 47) W at ae
   change (fun u W=> ∃p,u= .pointer (some ⟨p,0,none⟩)/\V.heap.size<=p/\W.heap[p]? =some (.cells Ke 73 (0,0))) (x 14) W at bg
   obtain⟨bv,ae,al⟩:=ae;obtain⟨p,ep,b8,aC⟩:=bg;obtain⟨a5,n5,k5,rfl⟩:=qr al;obtain⟨bk,a6,n6,k6,e6⟩:=qjZ HT.out 0 (ab.out.trans (hW.mono (by omega))) I;rw[e6]at ae bk;refine qt ?_;simp only[QG,Act.put,Ls,ep,ae];refine wpList_store_row rfl 73 _ _ rfl p (Yf t.k (.slice a5 n5 k5) (.slice a6 n6 k6) O (t.outN false) (.slice A (b - a) (J - a))) rfl rfl 73 _ aC (by kernel_rfl) rfl (by simp[Value.oneCell',Yf]) ?_;refine qw ?_;have aw:=hid (setRow_heap W p _ (Yf t.k (.slice a5 n5 k5) (.slice a6 n6 k6) O (t.outN false) (.slice A (b - a) (J - a))) _ _ aC);have am:=hid (below_setRow hW b8 (Yf t.k (.slice a5 n5 k5) (.slice a6 n6 k6) O (t.outN false) (.slice A (b - a) (J - a))));have av:=hid (Qj (cs:=Yf t.k (.slice a5 n5 k5) (.slice a6 n6 k6) O (t.outN false) (.slice A (b - a) (J - a))) al aC (by decide));generalize W.setRow p (Yf t.k (.slice a5 n5 k5) (.slice a6 n6 k6) O (t.outN false) (.slice A (b - a) (J - a)))=X at aw am av⊢;clear hW Z aC al bk ep ae aW;have cz:=am.out.size;have ar:=hid (ab.out.trans (am.out.mono bE));have ah:=hid (af.out.trans (am.out.mono (show wr.heap.size<=V.heap.size by have:=af.out.size;omega)));have bi:KeepH w0 I X (.slice a6 n6 k6) (yV 0 kz):=by rw[<-e6];exact(qjZ HT.out 0 ar.out I).1
   have aD:=hid bi;have aI:=hid (show KeepH w0 I X (.slice A (b - a) (J - a)) (qC L j) from .inr ⟨bn.out,ar.out⟩);clear bi;unfold Yf at aw;go_wp2_with (refine L73 p rfl aw.out ?_)
   refine(qbZ HT.out (row:=0) (at_:=j) (by omega) (by omega) O false (qC L j) (.slice A (b - a) (J - a)) (.slice a5 n5 k5) (.slice a6 n6 k6) X _ av.out aD.out.hold aI.out.hold (by have:=bY.out j;omega)).mono ?_;rintro e w5 ⟨u,rfl,hO,ac⟩;obtain⟨a7,k7,rfl, -, -⟩:=hO.hold.slice;have cn:=ac.size;have aL:I<=X.heap.size:=by have:=ah.out.size;omega
   have aM:=hid (KB.of_below ac aL);have ba:=qf aw.out ac;have b3:=hid (hO.le aL);have aj:=hid (ah.out.trans (ac.mono (show wr.heap.size<=X.heap.size from ah.out.size)));have b7:=hid (show CallAt w0 I w5 (t.callS kz z1 z2 0 j O false (qC L j)) [.int .i64 t.k,.slice a5 n5 k5,.slice a6 n6 k6,.bool O,.int .i64 (t.outN false),.slice A (b - a) (J - a)] from
    ⟨_,_,_,_,_,_,_,_,_,rfl,⟨(HT.out.okD (row:=0) (at_:=j) (by omega) (by omega)).2.2.1,(Yw (ownsRow_le av.out (show I<=V.heap.size by have:=af.out.size;omega))).kb aM.out⟩,aD.out.kb (by omega) aM.out,aI.out.kb (by omega) aM.out⟩)
   obtain⟨cs,ak,Y,aK⟩:=a3.out;obtain⟨vs,ao,aG⟩:=HO.out;rw[qV]at ak Y aK;rw[TreeV.rowZ_length]at ao aG;have bW:vs.length=j:=by have:=ao.1;omega
   have aE:=hid (KB.of_below aj.out aR);have bZ:=hid (fun i hi=>(aK i hi).kb (show w0.heap.size<=I by omega) aE.out);have b9:=hid (fun i hi=>(aG i hi).kb aE.out);have aO:=hid (qi Y (fun g _ g2=>aj.out.block g g2));have aV:=hid (qi ao (fun g _ g2=>aj.out.block g g2));obtain⟨a8,n8,k8,rfl⟩:=Q8 Y;obtain⟨a9,n9,k9,rfl⟩:=qr ao;have bq:t.node kz z1 z2 0 j O false (qC L j)=t.node kz z1 z2 0 j (decide (j+1=L.length)) false (qC L j):=by rw[aZ.out]
   have bu:t.callS kz z1 z2 0 j O false (qC L j)=t.callS kz z1 z2 0 j (decide (j+1=L.length)) false (qC L j):=by rw[aZ.out]
   have bN:=hid bq;have bC:=hid bu;generalize t.node kz z1 z2 0 j O false (qC L j)=N at*;generalize t.callS kz z1 z2 0 j O false (qC L j)=C at*;have cc:=aj.out.size;have co:p<w5.heap.size:=(Ai ba).1;clear ac hO bq bu Y aK ao aG aD aI av am a3 HO ah ar af ab bn aY ap bm ad aA bo;go_upto_region 12 with(first|(refine L73 p rfl ba ?_)|((with_reducible show wpList _ _ _ (Oper.mk _ (Op.buildSlice _ _ _) _ _ _ _::_) _ _);refine Jo rfl _ rfl _ _ _ _ _ _ rfl ?_)|(at_builtin;refine QO rfl _ _ _ rfl I 73 (by decide) ic _ 6 96 Tryz.underlying115 bI bD bT bP rfl (by decide) (.slice a8 n8 k8) j cs.flatten [.int .i64 t.k,.slice a5 n5 k5,.slice a6 n6 k6,.bool O,.int .i64 (t.outN false),.slice A (b - a) (J - a)] _ rfl aO.out rfl rfl (by simp[Value.oneCell']) (by unfold maxLen;omega) (by omega) (by omega) ?_;intro v' w' aa ag aQ))
   have aP:=hid (ya aV.out (Yt aO.out aV.out (by decide) aQ));have bU:=hid (show CallsO w0 I w' v' (t.rowC kz z1 z2 0 false L (j+1)) from by
    rw[zO,<-bC.out];refine CallsO.snoc (w:=w5) (cs:=cs) (fun i hi=>?_) (by rw[qV];exact ak) b7.out (by rw[qV];exact aa) (by omega) ag;rw[qV]at hi;exact bZ.out i hi)
   have aH:=hid ag;have ck:=ag.size;obtain⟨cm,ci,cp,rfl⟩:=Q8 aa;have bx:=hid aa;clear aa ag aQ;go_wp2_with (first|((with_reducible show wpList _ _ _ (Oper.mk _ (Op.buildSlice _ _ _) _ _ _ _::_) _ _);refine QU rfl _ rfl _ _ _ rfl ?_)|(at_builtin;refine QO rfl _ _ _ rfl I 24 (by decide) ib (.slice none 0 0) 1 24 Tryz.underlying67 bO b4 bX bR rfl (by decide) (.slice a9 n9 k9) j vs [.slice a7 N.length k7] _ rfl aP.out rfl rfl (by simp[Value.oneCell']) (by unfold maxLen;omega) (by omega) (by omega) ?_;intro v7 w7 aX au bz))
   refine⟨⟨j+1,rfl,by omega,?_,?_,(HB.out.trans (aj.out.mono aR)).trans ((aH.out.trans au).below)⟩,by simp[intOf];omega⟩
   ·exact bU.out.kb (by omega) au (Yt aP.out bx.out (by decide) bz)
   ·rw[zN,<-bN.out];refine ListO.snoc (w:=w') (vs:=vs) (x:= .slice a7 N.length k7) (fun i hi=>?_) (by rw[TreeV.rowZ_length];exact bW) (b3.out.kb aH.out) (by rw[TreeV.rowZ_length];exact aX) au;rw[TreeV.rowZ_length]at hi;exact(b9.out i hi).kb aH.out
  obtain rfl:j=L.length:=by omega
  have HO:=hid (ho.le (show U<=I by omega));have HC:=hid (Y.le (show U<=I by omega));have HB:=hid (bf.out.trans (S.mono (show U<=I by omega)));obtain⟨cs, -,a4, -⟩:=Y;obtain⟨vs,bh, -⟩:=ho;obtain⟨a8,n8,k8,rfl⟩:=Q8 a4;obtain⟨a9,n9,k9,rfl⟩:=qr bh;clear S a4 bh;go_wp2
  go_ret2
  exact⟨_,_,rfl,by rw[ai];exact HC.out,by rw[ai];exact HO.out,by rw[ai];exact HB.out⟩
