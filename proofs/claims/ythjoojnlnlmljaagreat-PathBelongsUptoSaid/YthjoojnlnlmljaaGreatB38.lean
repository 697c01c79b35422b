/- The leaves' calls and outputs, by the reference. No condition. -/
import Derived.Test.YthjoojnlnlmljaaGreatP00
import Derived.Test.YthjoojnlnlmljaaGreatP01
import Derived.Test.YthjoojnlnlmljaaGreatB36
import Derived.Test.YthjoojnlnlmljaaGreatB34
import Derived.Test.YthjoojnlnlmljaaGreatB37
set_option linter.all false
set_option maxRecDepth 100000
set_option maxHeartbeats 8000000
namespace Go.Proofs.YthjoojnlnlmljaaGreat
open Go.ChangeShapes Go.WideShapes Go.ChangeAt Go.RowKit Go.Joins Go.Shelf Go.Maps
open Go.Lib (hid)
attribute [local go_sem] Oper.semAt_some
theorem qeY {w:World}{a:Option Addr}{n c lo hi:Nat}{zs:List Int}(h:Hold w (.slice a n c) zs)(U:lo≤hi)(I:hi≤zs.length):Hold w (.slice (if c=lo then a else a.map (·.add lo)) (hi - lo) (c - lo)) ((zs.drop lo).take (hi - lo)):=by
 refine⟨fun z O=>h.1 z (List.mem_of_mem_drop (List.mem_of_mem_take O)),?_⟩;have o:((zs.drop lo).take (hi - lo)).length=hi - lo:=by simp;omega
 rcases h.2 with⟨rfl,e⟩|⟨G,S,e,X,V,q⟩
 ·simp only[Value.slice.injEq]at e;obtain⟨rfl, -,rfl⟩:=e;simp only[List.length_nil]at I;exact .inl ⟨by simp,by rw[show hi - lo=0 by omega,Nat.zero_sub];cases lo<;>rfl⟩
 ·simp only[Value.slice.injEq]at e;obtain⟨rfl, -,rfl⟩:=e;by_cases D:c=lo
  ·rw[if_pos D];exact .inr ⟨G,c - lo,by rw[o],by rw[o];omega,by omega,.inl (List.eq_nil_of_length_eq_zero (by omega))⟩
  ·rw[if_neg D];refine .inr ⟨G.add lo,c - lo,by rw[o];rfl,by rw[o];omega,by omega,?_⟩;by_cases r:(zs.drop lo).take (hi - lo)=[]
   ·exact .inl r
   rcases q with q|⟨b,off,rfl,q,J⟩
   ·rw[q]at r;simp at r
   ·refine .inr ⟨b,off+lo,Go.WideShapes.add_plain _ _ _,q,fun i hi=>?_⟩;rw[o]at hi;rw[show off+lo+i=off+(lo+i) by omega,J (lo+i) (by omega)];simp[qp,Lg,List.getElem?_take,List.getElem?_drop,hi]
theorem zv {n:Nat}(zs:List Int)(q:1≤n):(QC n zs).length=lvs zs.length n:=by
 unfold QC lvs;split
 ·rename_i h;subst h;simp[qP]
 ·rename_i h;have o:=List.length_pos_iff.2 h;rw[Qv];have:=ZD (d:=n) (show 1≤zs.length from o)
  omega
theorem qhx {t:TreeV}{zs:List Int}(S:t.err zs.length=0)(r:1≤t.ln){i:Nat}(hi:i<(QC t.ln zs).length):
  t.there zs.length ((0:Nat):Int) i∧ ∃a b,t.spot zs.length 0 i=⟨0,i,a,b,decide (i+1=(QC t.ln zs).length),false⟩∧a≤b∧b≤zs.length∧qC (QC t.ln zs) i=(zs.drop a).take (b - a):=by
 have G:=qF S;have D:=zv zs r;have q:=G.first
 have V:=G.len;refine⟨⟨by omega,by show 0<_;omega,by show i<nth _ 0;rw[q];omega⟩,?_⟩;unfold TreeV.spot QV;rw[if_neg (by omega)];simp only[if_true];have o:qC (QC t.ln zs) i=(zs.drop (i*t.ln)).take t.ln:=by
  unfold QC at hi⊢;split
  ·rename_i h;subst h;have:i=0:=by simp at hi;omega
   subst this;simp[qC]
  ·rename_i h;rw[if_neg h,Qv]at hi;simp[qC,zT,piece,Lg,List.getElem?_map,hi]
 have I:i*t.ln≤zs.length:=qar r (by omega);by_cases h:i=nth (t.rowsOf zs.length) 0 - 1
 ·rw[if_pos h];refine⟨i*t.ln,zs.length,?_,I,Nat.le_refl _,?_⟩
  ·rw[decide_eq_true (by rw[q]at h;omega)]
  ·rw[o];have X:(zs.drop (i*t.ln)).length=zs.length - i*t.ln:=by simp
   have U:zs.length - i*t.ln≤t.ln:=by
    have J:qP zs.length t.ln≤i+1:=by
     rw[q]at h;unfold lvs at h D;omega
    have:=j6 r J
    rw[Nat.add_mul,Nat.one_mul]at this;omega
   rw[List.take_of_length_le (by omega),List.take_of_length_le (by omega)]
 ·rw[if_neg h];have O:i+1<lvs zs.length t.ln:=by rw[q]at h;omega
  refine⟨i*t.ln,(i+1)*t.ln,?_,Nat.mul_le_mul_right _ (by omega),qar r O,?_⟩
  ·rw[decide_eq_false (by omega)]
  ·rw[o,Nat.add_mul,Nat.one_mul,Nat.add_sub_cancel_left]
theorem qbJ {t:TreeV}{kz z1 z2:List Int}{w:World}(h:TreeOk t kz z1 z2 w){row at_:Nat}(D:row≤255)(G:at_<281474976710656)(la rt:Bool)(ds:List Int)(o r q:Value)(W:World)(b:Nat)
  (O:W.ownsRow b 5 1 r (mB t.big) ((t.blk z1 z2 row at_).map qo)) (V:Hold W q (Y6 row kz)) (X:Hold W o ds) (hl:ds.length≤1073741824):
  Calls Tryz.prog 85 #[.agg (yX t.k r q la (t.outN rt) o)] W fun e w'=> ∃u,e= .returned (.tuple #[u,.int .i64 0])∧OwnB W.heap.size w' u (t.node kz z1 z2 row at_ la rt ds)∧Below W.heap.size W w':=by
 obtain⟨I,J,Y,Z⟩:=h.okD D G;rw[←Yr h.v];have h5:=Z rt;refine(qfR t.big _ _ ds la _ r q o W (Qi O Y) V X (by omega) I J (by omega)).mono ?_;rintro e w' ⟨⟨u,rfl,S⟩,U⟩
 exact⟨u,rfl,⟨yY t kz z1 z2 row at_ la rt ds,S⟩,U⟩
theorem qjD {t:TreeV}{kz z1 z2:List Int}{w W:World}(h:TreeOk t kz z1 z2 w)(row:Nat)(o:Below w.heap.size w W)(B:Nat):KeepH w B W (qdU row (.slice t.ka t.kl t.kc)) (Y6 row kz)∧ ∃a n c,qdU row (.slice t.ka t.kl t.kc)= .slice a n c:=by
 unfold qdU Y6;split
 ·exact⟨.inr ⟨h.k,o⟩,_,_,_,rfl⟩
 ·exact⟨.inl ⟨fun _ h=>by simp at h,.inl ⟨rfl,rfl⟩⟩,_,_,_,rfl⟩
theorem qeR (t:TreeV)(kz z1 z2 zs:List Int)(v:Value)(w0 w:World)(h:TreeOk t kz z1 z2 w0)(he:t.err zs.length=0)(hv:Hold w0 v zs)(hw:Below w0.heap.size w0 w)(hn:zs.length≤4194304):
  Calls Tryz.prog 64 #[t.val,v] w fun e w'=> ∃cv u,e= .returned (.tuple #[cv,u])∧CallsO w0 w.heap.size w' cv (t.rowC kz z1 z2 0 false (QC t.ln zs) (QC t.ln zs).length)∧ListO w.heap.size w' u (t.rowZ kz z1 z2 0 false (QC t.ln zs) (QC t.ln zs).length)∧Below w.heap.size w w':=by
 obtain⟨U,ai⟩:=Ex w.heap.size;have bF:w0.heap.size≤U:=by have:=hw.size;omega
 have HW:=hid hw;have HT:=hid h;have HV:=hid hv;obtain⟨ib,bO,bG,bH,ca⟩:=info_parts Yh;obtain⟨ic,bT,bA,b9,bI⟩:=info_parts qav;have bu:=fun W:World=>ZM t h.l zs.length (by omega) he W
 have aN:=hid bu;obtain⟨va,J,rfl,ce,cf⟩:=hv.slice;have bh:Below U w (w.alloc (.cells t.c 26)):=by rw[←ai];exact Br.alloc Nl _
 have am:=Wn w (.cells t.c 26);rw[ai]at am;have ax:1≤t.ln:=(Qu h.l he).1;have ao:=zv zs ax;have cg:=qb8 zs ax;have b4:=hid (fun i=>qfb (n:=t.ln) zs i);have bY:=hid (fun i hi=>qhx (i:=i) he ax hi);rw[←ao]at aN;have HE:=hid he;have b3:=hid (fun(W:World) (i:Nat)=>Zd t h.l zs.length (by omega) ((0:Nat):Int) i W);generalize QC t.ln zs=L at*;clear h hv ax hw ao bu he;unfold TreeV.val at*;go_enter Tryz.func64,Tryz.ntmps64
 go_upto_region 1 with(fail)
 generalize w.alloc (.cells t.c 26)=wA at*;have cw:IntKind.u64.wrap (zs.length:Int)=(zs.length:Int):=u64_wrap_id _ (by omega) (by omega);go_wp2_with (refine L26 U rfl am ?_)
 refine(aN.out wA).mono ?_;rintro e w3 ⟨rfl,aE⟩;have bg:=hid (qf am aE);have bm:=hid (bh.trans (aE.mono (show U≤wA.heap.size by have:=(Ai am).1;omega)));have bM:U<w3.heap.size:=(Ai bg.out).1;obtain⟨I,bJ⟩:=Ex w3.heap.size;have ch:U<I:=by omega
 clear aE am bh aN bM;go_wp2_with fail
 go_loopw [9,10,11] (fun s u i wr=> ∃j:Nat,i= .int .u64 j∧j≤L.length∧CallsO w0 I wr s (t.rowC kz z1 z2 0 false L j)∧ListO I wr u (t.rowZ kz z1 z2 0 false L j)∧Below I w3 wr) (fun _ _ i _=>L.length - (intOf i).toNat)
 case atStart=>exact⟨0,rfl,Nat.zero_le _,CallsO.nil _ _ _,ListO.nil _ _,Below.refl _ _⟩
 case round=>
  obtain⟨j,rfl,hj,S,ho,Y⟩:=hrel;by_cases bR:j<L.length
  case pos=>
   have cc:(j:Int)<L.length:=by omega
   have cy:(L.length:Int)≤16777216:=by omega
   obtain⟨aB,a,b,aL,bS,bV,bl⟩:=bY.out j bR;have ad:=hid (fun W:World=>b3.out W j);have aZ:t.spotR zs.length ((0:Nat):Int) j=⟨0,j,a,b,decide (j+1=L.length),false⟩:=by unfold TreeV.spotR;rw[if_pos ⟨HE.out,aB⟩];exact aL
   have bn:t.spotE zs.length ((0:Nat):Int) j=0:=by unfold TreeV.spotE;rw[if_neg (by simp[HE.out]),if_pos aB]
   rw[aZ,bn]at ad;unfold SpotV.val at ad;simp only at ad
   have bp:=hid aB;have ar:=hid aL;have b5:=hid bl;obtain⟨O,aK⟩: ∃q:Bool,decide (j+1=L.length)=q:=⟨_,rfl⟩;rw[aK]at ad ar;have bo:=hid aK;have aI:wr.heap[U]? =some (.cells t.c 26 (0,0)):=qf bg.out (bJ▸Y);have bW:=hid (show Below w0.heap.size w0 wr from HW.out.trans ((bm.out.trans (Y.mono (by omega))).mono bF));have aH:I≤wr.heap.size:=by have:=Y.size;omega
   have cd:IntKind.u64.wrap ((j:Int)+1)=((j+1:Nat):Int):=u64_wrap_id _ (by omega) (by omega);have bi:=hid S;have HO:=hid ho;have HB:=hid Y;clear aB aL bl aK aZ bn S ho Y;go_wp2_with (refine L26 U rfl aI ?_)
   refine(ad.out wr).mono ?_;rintro e w4 ⟨rfl,aw⟩;have bb:=hid aw;have bU:=aw.size;have aY:=qf aI aw;clear aw;go_upto_region 9 with(first|((with_reducible show wpList _ _ _ (Oper.mk none (Op.store 96 _ _) _ _ _ _::_) _ _);refine wpList_store_row rfl 96 _ _ rfl w4.heap.size #[.int .i64 0,.int .u64 j,.int .u64 a,.int .u64 b,.bool O,.bool false] rfl rfl 96 _ (Wn _ _) (by kernel_rfl) rfl (by simp[Value.oneCell']) ?_))
   refine qm ?_;intro V hV;obtain⟨bs,aC⟩:=Ex w4.heap.size;have av:V.heap[bs]? =some (.cells #[.int .i64 0,.int .u64 j,.int .u64 a,.int .u64 b,.bool O,.bool false] 96 (0,0)):=by rw[hV,←aC];exact setRow_heap _ _ _ _ _ _ (Wn _ _)
   have aS:Below bs w4 V:=by rw[hV,←aC];exact below_setRow (Br.alloc Nl _) Nl _
   rw[aC];have bk:V.heap[U]? =some (.cells t.c 26 (0,0)):=(aS.block U (by omega)).trans aY;have au:Below wr.heap.size wr V:=bb.out.trans (aS.mono (by omega));have af:=hid au;have ac:=hid (bW.out.trans (au.mono (show w0.heap.size≤wr.heap.size by omega)));have bE:w0.heap.size≤V.heap.size:=ac.out.size;have ci:bs<V.heap.size:=(Ai av).1;obtain⟨A,G⟩: ∃A,(if J=a then va else va.map (·.add a))=A:=⟨_,rfl⟩;have ba:Hold w0 (.slice A (b - a) (J - a)) (qC L j):=by rw[b5.out,←G];exact qeY HV.out bS bV
   have bq:=hid ba;have be:=hid G;have aV:=hid (fun(W:World) (Y:Below w0.heap.size w0 W)=>jm t zs.length HE.out HT.out.l (by omega) z1 z2 0 j (by omega) (by omega) bp.out _ ar.out A (b - a) (J - a) W (HT.out.s.below Y) (HT.out.p.below Y));unfold TreeV.val at aV;clear ba G au aS hV bb aY aI bU aC;refine qI (n:=11) (w0:=V) (B:=V.heap.size) [.v 38 (.agg t.c),.v 39 (.int .u64 (zs.length:Nat)),.v 40 (.int .u64 j),.v 41 (.slice va zs.length J),.z 42 bs 2,.v 43 (.int .u64 a),.z 44 bs 3,.v 45 (.int .u64 b),.v 46 (.slice A (b - a) (J - a)),.p 47 (fun u W=> ∃bv,u= .agg (yX t.k bv (qdU 0 (.slice t.ka t.kl t.kc)) O (t.outN false) (.slice A (b - a) (J - a)))∧W.ownsRow V.heap.size 5 1 bv (mB t.big) ((t.blk z1 z2 0 j).map qo)),.p 14 (fun u W=> ∃p,u= .pointer (some ⟨p,0,none⟩)∧V.heap.size≤p∧W.heap[p]? =some (.cells Ke 73 (0,0)))] (by exact⟨(fun _ _ _ h Y=>by obtain⟨r,e,h⟩:=h;exact⟨r,e,qi h (fun g _ hg=>Y.block g hg)⟩),(fun _ _ _ h Y=>by obtain⟨p,e,h3,h4⟩:=h;exact⟨p,e,h3,qf h4 Y⟩),trivial⟩) Br.drew Nl ?_ ?_
   ·repeat' (with_reducible first|exact qB|refine qw ?_ ?_)
    ·intro AA x W G hW Z o D K hK;have a2:=G.2 2 (by decide);conv at a2=>rhs;whnf
     clear o G;exact wp_load_row 26 _ rfl U a2 _ _ _ _ (qf bk hW) Tryz.underlying26 rfl (by kernel_rfl) (hK _ _ Br rfl)
    all_goals try
     intro AA x W G hW Z o D K hK;have a1:=G.2 1 (by decide);conv at a1=>rhs;whnf
     have a6:=G.2 6 (by decide);conv at a6=>rhs;whnf
     have b8:=G.2 11 (by decide);conv at b8=>rhs;whnf
     have b7:=G.2 12 (by decide);conv at b7=>rhs;whnf
     simp only[Q7,yk]at D;clear o G;first
     | go_simp
       exact hK _ _ BR rfl
     | have y0:W.cell? ⟨bs,2,none⟩=some (.int .u64 a):=qd (qf av hW) 2
       have y1:W.cell? ⟨bs,3,none⟩=some (.int .u64 b):=qd (qf av hW) 3;have y2:bs<W.heap.size:=by omega
       go_simp
       exact hK _ _ BR rfl
    ·intro AA x W G hW Z o _ K hK;have cn:=gv G o 3 41;have cl:=gv G o 5 43;have co:=gv G o 7 45;clear o G;have y5:b≤J:=by omega
     go_simp
     rw[be.out];exact hK _ _ BR rfl
    ·intro AA x W G hW Z o _ K hK;have cj:=gv G o 0 38;have cz:=gv G o 1 39;have cr:=gv G o 2 40;have cx:=gv G o 8 46;clear o G;go_simp
     refine(aV.out W (ac.out.trans (hW.mono (by omega)))).mono ?_;rintro e w5 ⟨bv,rfl,an,ab⟩;exact hK _ _ ab ⟨bv,rfl,ownsRow_le an Z⟩
    ·intro AA x W G hW Z o _ K hK;clear o G;go_simp
     exact hK _ _ (Br.alloc Nl _) ⟨W.heap.size,rfl,Z,Wn W _⟩
   intro x W hW Z bw;obtain⟨ae,bj, -⟩:=bw;change (fun u W=> ∃bv,u= .agg (yX t.k bv (qdU 0 (.slice t.ka t.kl t.kc)) O (t.outN false) (.slice A (b - a) (J - a)))∧W.ownsRow V.heap.size 5 1 bv (mB t.big) ((t.blk z1 z2 0 j).map qo)) (x 47) W at ae
   change (fun u W=> ∃p,u= .pointer (some ⟨p,0,none⟩)∧V.heap.size≤p∧W.heap[p]? =some (.cells Ke 73 (0,0))) (x 14) W at bj
   obtain⟨bv,ae,an⟩:=ae;obtain⟨p,ep,bZ,aA⟩:=bj;obtain⟨a5,n5,k5,rfl⟩:=qs an;obtain⟨bc,a6,n6,k6,e6⟩:=qjD HT.out 0 (ac.out.trans (hW.mono (by omega))) I;rw[e6]at ae bc;refine qr ?_;simp only[QP,Act.put,Ls,ep,ae];refine wpList_store_row rfl 73 _ _ rfl p (yX t.k (.slice a5 n5 k5) (.slice a6 n6 k6) O (t.outN false) (.slice A (b - a) (J - a))) rfl rfl 73 _ aA (by kernel_rfl) rfl (by simp[Value.oneCell',yX]) ?_;refine qv ?_;have az:=hid (setRow_heap W p _ (yX t.k (.slice a5 n5 k5) (.slice a6 n6 k6) O (t.outN false) (.slice A (b - a) (J - a))) _ _ aA);have ak:=hid (below_setRow hW bZ (yX t.k (.slice a5 n5 k5) (.slice a6 n6 k6) O (t.outN false) (.slice A (b - a) (J - a))));have ay:=hid (Qg (cs:=yX t.k (.slice a5 n5 k5) (.slice a6 n6 k6) O (t.outN false) (.slice A (b - a) (J - a))) an aA (by decide));generalize W.setRow p (yX t.k (.slice a5 n5 k5) (.slice a6 n6 k6) O (t.outN false) (.slice A (b - a) (J - a)))=X at az ak ay⊢;clear hW Z aA an bc ep ae aV;have ck:=ak.out.size;have aq:=hid (ac.out.trans (ak.out.mono bE));have ah:=hid (af.out.trans (ak.out.mono (show wr.heap.size≤V.heap.size by have:=af.out.size;omega)));have a3:KeepH w0 I X (.slice a6 n6 k6) (Y6 0 kz):=by rw[←e6];exact(qjD HT.out 0 aq.out I).1
   have aO:=hid a3;have aJ:=hid (show KeepH w0 I X (.slice A (b - a) (J - a)) (qC L j) from .inr ⟨bq.out,aq.out⟩);clear a3;unfold yX at az;go_wp2_with (refine L73 p rfl az.out ?_)
   refine(qbJ HT.out (row:=0) (at_:=j) (by omega) (by omega) O false (qC L j) (.slice A (b - a) (J - a)) (.slice a5 n5 k5) (.slice a6 n6 k6) X _ ay.out aO.out.hold aJ.out.hold (by have:=b4.out j;omega)).mono ?_;rintro e w5 ⟨u,rfl,hO,ab⟩;obtain⟨a7,k7,rfl, -, -⟩:=hO.hold.slice;have cq:=ab.size;have aF:I≤X.heap.size:=by have:=ah.out.size;omega
   have aQ:=hid (KB.of_below ab aF);have bd:=qf az.out ab;have bK:=hid (hO.le aF);have al:=hid (ah.out.trans (ab.mono (show wr.heap.size≤X.heap.size from ah.out.size)));have bC:=hid (show CallAt w0 I w5 (t.callS kz z1 z2 0 j O false (qC L j)) [.int .i64 t.k,.slice a5 n5 k5,.slice a6 n6 k6,.bool O,.int .i64 (t.outN false),.slice A (b - a) (J - a)] from
    ⟨_,_,_,_,_,_,_,_,_,rfl,⟨(HT.out.okD (row:=0) (at_:=j) (by omega) (by omega)).2.2.1,(Q9 (ownsRow_le ay.out (show I≤V.heap.size by have:=af.out.size;omega))).kb aQ.out⟩,aO.out.kb (by omega) aQ.out,aJ.out.kb (by omega) aQ.out⟩)
   obtain⟨cs,ao,S,aP⟩:=bi.out;obtain⟨vs,aj,aR⟩:=HO.out;rw[qV]at ao S aP;rw[TreeV.rowZ_length]at aj aR;have bP:vs.length=j:=by have:=aj.1;omega
   have aT:=hid (KB.of_below al.out aH);have bN:=hid (fun i hi=>(aP i hi).kb (show w0.heap.size≤I by omega) aT.out);have bX:=hid (fun i hi=>(aR i hi).kb aT.out);have aD:=hid (qi S (fun g _ g2=>al.out.block g g2));have aG:=hid (qi aj (fun g _ g2=>al.out.block g g2));obtain⟨a8,n8,k8,rfl⟩:=Q4 S;obtain⟨a9,n9,k9,rfl⟩:=qs aj;have bt:t.node kz z1 z2 0 j O false (qC L j)=t.node kz z1 z2 0 j (decide (j+1=L.length)) false (qC L j):=by rw[bo.out]
   have bf:t.callS kz z1 z2 0 j O false (qC L j)=t.callS kz z1 z2 0 j (decide (j+1=L.length)) false (qC L j):=by rw[bo.out]
   have bD:=hid bt;have bQ:=hid bf;generalize t.node kz z1 z2 0 j O false (qC L j)=N at*;generalize t.callS kz z1 z2 0 j O false (qC L j)=C at*;have cb:=al.out.size;have cA:p<w5.heap.size:=(Ai bd).1;clear ab hO bt bf S aP aj aR aO aJ ay ak bi HO ah aq af ac bq be ar bp ad av bk;go_upto_region 12 with(first|(refine L73 p rfl bd ?_)|((with_reducible show wpList _ _ _ (Oper.mk _ (Op.buildSlice _ _ _) _ _ _ _::_) _ _);refine Jc rfl _ rfl _ _ _ _ _ _ rfl ?_)|(at_builtin;refine QN rfl _ _ _ rfl I 73 (by decide) ic _ 6 96 Tryz.underlying111 bT bA b9 bI rfl (by decide) (.slice a8 n8 k8) j cs.flatten [.int .i64 t.k,.slice a5 n5 k5,.slice a6 n6 k6,.bool O,.int .i64 (t.outN false),.slice A (b - a) (J - a)] _ rfl aD.out rfl rfl (by simp[Value.oneCell']) (by unfold maxLen;omega) (by omega) (by omega) ?_;intro v' w' aa ag aW))
   have aU:=hid (Q6 aG.out (Ym aD.out aG.out (by decide) aW));have b6:=hid (show CallsO w0 I w' v' (t.rowC kz z1 z2 0 false L (j+1)) from by
    rw[zE,←bQ.out];refine CallsO.snoc (w:=w5) (cs:=cs) (fun i hi=>?_) (by rw[qV];exact ao) bC.out (by rw[qV];exact aa) (by omega) ag;rw[qV]at hi;exact bN.out i hi)
   have aM:=hid ag;have cu:=ag.size;obtain⟨cp,ct,cm,rfl⟩:=Q4 aa;have bx:=hid aa;clear aa ag aW;go_wp2_with (first|((with_reducible show wpList _ _ _ (Oper.mk _ (Op.buildSlice _ _ _) _ _ _ _::_) _ _);refine QS rfl _ rfl _ _ _ rfl ?_)|(at_builtin;refine QN rfl _ _ _ rfl I 24 (by decide) ib (.slice none 0 0) 1 24 Tryz.underlying67 bO bG bH ca rfl (by decide) (.slice a9 n9 k9) j vs [.slice a7 N.length k7] _ rfl aU.out rfl rfl (by simp[Value.oneCell']) (by unfold maxLen;omega) (by omega) (by omega) ?_;intro v7 w7 aX ap bz))
   refine⟨⟨j+1,rfl,by omega,?_,?_,(HB.out.trans (al.out.mono aH)).trans ((aM.out.trans ap).below)⟩,by simp[intOf];omega⟩
   ·exact b6.out.kb (by omega) ap (Ym aU.out bx.out (by decide) bz)
   ·rw[zD,←bD.out];refine ListO.snoc (w:=w') (vs:=vs) (x:= .slice a7 N.length k7) (fun i hi=>?_) (by rw[TreeV.rowZ_length];exact bP) (bK.out.kb aM.out) (by rw[TreeV.rowZ_length];exact aX) ap;rw[TreeV.rowZ_length]at hi;exact(bX.out i hi).kb aM.out
  obtain rfl:j=L.length:=by omega
  have HO:=hid (ho.le (show U≤I by omega));have HC:=hid (S.le (show U≤I by omega));have HB:=hid (bm.out.trans (Y.mono (show U≤I by omega)));obtain⟨cs, -,a4, -⟩:=S;obtain⟨vs,br, -⟩:=ho;obtain⟨a8,n8,k8,rfl⟩:=Q4 a4;obtain⟨a9,n9,k9,rfl⟩:=qs br;clear Y a4 br;go_wp2
  go_ret2
  exact⟨_,_,rfl,by rw[ai];exact HC.out,by rw[ai];exact HO.out,by rw[ai];exact HB.out⟩
end Go.Proofs.YthjoojnlnlmljaaGreat
