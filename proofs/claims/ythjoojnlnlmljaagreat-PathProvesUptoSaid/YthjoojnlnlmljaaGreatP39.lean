/- The path of a leaf, by the program: path.Prove. No condition. -/
import Derived.Test.YthjoojnlnlmljaaGreatP33
import Derived.Test.YthjoojnlnlmljaaGreatP37
import Derived.Test.YthjoojnlnlmljaaGreatP38
set_option linter.all false
set_option maxRecDepth 100000
set_option maxHeartbeats 8000000
namespace Go.Proofs.YthjoojnlnlmljaaGreat
open Go.ChangeShapes Go.WideShapes Go.ChangeAt Go.RowKit Go.Joins Go.Shelf Go.Maps
open Go.Lib (hid)
attribute [local go_sem] Oper.semAt_some
theorem jr {t:TreeV}(h:t.validE=0)(o z1 z2 zs:List Int){k:Nat}(D:k<(t.rowsOf zs.length).length):(t.rowsZ o z1 z2 zs).getD k []=t.lvlZ o z1 z2 (t.leafZ o z1 z2 zs) k∧k<(t.rowsZ o z1 z2 zs).length:=by
 unfold TreeV.rowsZ;rw[if_pos h];have q:k<(t.allC o z1 z2 zs ((t.rowsOf zs.length).length - 1+1)).length:=by rw[TreeV.allC_length];omega
 refine⟨?_,by rw[List.length_map];exact q⟩;have r:=Je t o z1 z2 zs (m:=(t.rowsOf zs.length).length - 1+1) (i:=k) (by omega);rw[Lg,List.getElem?_eq_getElem q,Option.getD_some]at r;rw[Lg,List.getElem?_map,List.getElem?_eq_getElem q,Option.map_some,Option.getD_some,r,TreeV.lvl_is];unfold TreeV.callsR TreeV.rowC TreeV.rowZ;rw[List.map_map];rfl
def TreeV.llZ (t:TreeV)(kz z1 z2 zs:List Int)(leaf:Nat):Nat→List (List (List Int))
 | 0=>[]
 | k+1=>t.llZ kz z1 z2 zs leaf k++[(t.stepZ kz z1 z2 zs leaf k).1]++[(t.stepZ kz z1 z2 zs leaf k).2]
theorem TreeV.llZ_length (t:TreeV)(q z1 z2 zs:List Int)(o:Nat): ∀k,(t.llZ q z1 z2 zs o k).length=k*2
 | 0=>rfl
 | k+1=>by simp[TreeV.llZ,TreeV.llZ_length t q z1 z2 zs o k];omega
theorem ZI (t:TreeV)(q z1 z2 zs:List Int)(o:Nat): ∀m k,k<m→(t.llZ q z1 z2 zs o m).getD (k*2) []=(t.stepZ q z1 z2 zs o k).1∧(t.llZ q z1 z2 zs o m).getD (k*2+1) []=(t.stepZ q z1 z2 zs o k).2
 | m+1,k,h=>by
  have r:=TreeV.llZ_length t q z1 z2 zs o m;show((t.llZ q z1 z2 zs o m++[_])++[_]).getD _ _=_∧((t.llZ q z1 z2 zs o m++[_])++[_]).getD _ _=_
  rw[qI,qI,qI,qI];simp only[List.length_append,List.length_singleton,r];by_cases D:k=m
  ·subst D;rw[if_pos (by omega),if_neg (by omega),if_pos rfl,if_neg (by omega),if_pos rfl];exact⟨rfl,rfl⟩
  ·rw[if_pos (by omega),if_pos (by omega),if_pos (by omega),if_pos (by omega)];exact ZI t q z1 z2 zs o m k (by omega)
theorem Zp {α:Type}(X:List α)(p q r d:α){n:Nat}(h:X.length=n):(X++[p]++[q]).getD n d=p∧(X++[p]++[q]).getD (n+1) d=q∧(X++[p]++[q]).set n r=X++[r]++[q]∧(X++[p]++[q]).set (n+1) r=X++[p]++[r]:=by
 subst h;refine⟨?_,?_,?_,?_⟩
 ·rw[qI,if_pos (by simp),qI,if_neg (by omega),if_pos rfl]
 ·rw[qI,if_neg (by simp),if_pos (by simp)]
 ·rw[List.append_assoc,List.set_append_right _ _ Nl,Nat.sub_self];simp
 ·rw[List.append_assoc,List.set_append_right _ _ (by omega),Nat.add_sub_cancel_left];simp
theorem jv {L:List (List Int)}{f j:Nat}(h:f+j<L.length):(L.drop f).take (j+1)=(L.drop f).take j++[qK L (f+j)]:=by
 have e:qK L (f+j)=qK (L.drop f) j:=(J8 L f j).symm;rw[List.take_add_one,List.getElem?_drop,List.getElem?_eq_getElem h];unfold qK;rw[Lg,List.getElem?_eq_getElem h];rfl
theorem qgk (t:TreeV)(hl:0≤t.l∧t.l≤4294967295)(n o:Nat)(hn:n≤4194304)(Y:t.spotE n 0 o≠0)(va:Option Addr)(vc:Nat)(w:World):
  Calls Tryz.prog 28 #[t.val,.slice va n vc,.int .u64 o] w fun r w'=>r= .returned (.tuple #[YB 0 0 (.slice none 0 0),.int .i64 (t.spotE n 0 o)])∧Below w.heap.size w w':=by
 obtain⟨q,U⟩:=Ex w.heap.size;have Z:=hid (qgV t hl n (by omega) o Y);have hq:(t.spotE n 0 o != 0)=true:=by rw[bne_iff_ne];exact Y
 have ac:IntKind.u64.wrap (n:Int)=(n:Int):=u64_wrap_id _ (by omega) (by omega);generalize t.spotE n 0 o=ev at*;clear Y;unfold TreeV.val YB at*;go_enter Tryz.func28,Tryz.ntmps28
 go_upto_region 1 with(fail)
 refine qn ?_;intro I D;have X:I.heap[q]? =some (.cells #[.int .i64 t.k,.int .i64 t.d,.int .i64 t.f,.int .i64 t.p,.int .u32 t.l,.int .i64 t.i,.slice t.ka t.kl t.kc,.slice t.sa t.sl t.sc,.slice t.pa t.pl t.pc] 26 (0,0)):=by rw[D];exact(Bh _ _ _ (by simp;omega)).trans (qe _ _ U.symm)
 have O:I.heap[q+1]? =some (.cells #[.int .u64 0,.int .u64 0,.slice none 0 0] 55 (0,0)):=by rw[D];exact qe _ _ (by simp;omega)
 have V:Below q w I:=by rw[D,←U];exact(Br.alloc Nl _).alloc (by simp) _
 have ab:q+1<I.heap.size:=(Ai O).1;clear D;go_wp2_with ((with_reducible show wpList _ _ _ (Oper.mk _ (Op.load 26 _) _ _ _ _::_) _ _);refine wpList_load_row rfl 26 _ rfl q rfl _ _ _ _ X Tryz.underlying26 rfl (by kernel_rfl) ?_)
 refine(Z.out I).mono ?_;rintro e w2 ⟨rfl,G⟩;have J:=qg O G;have HB:=hid (V.trans (G.mono (show q≤I.heap.size by omega)));have aa:q+1<w2.heap.size:=by have:=G.size;omega
 obtain⟨cR,fR⟩:=ze J;have HR:=hid J;clear G V X O J Z;go_wp2_with fail
 exact Bp (qA rfl _ _ _ _ _ _ _ rfl (ZC HR.out _ _ _) Tryz.underlying55 rfl (by kernel_rfl)) rfl ⟨rfl,by rw[U];exact ZE HB.out (by omega) _ _ _⟩
theorem qho (t:TreeV)(I z1 z2 zs:List Int)(D:Nat)(dB:(D:Int)≤18446744073709551615)(v:Value)(w:World)(h:TreeOk t I z1 z2 w)(hv:Hold w v zs)(hn:zs.length≤4194304)(he:t.spotE zs.length 0 D=0):
  Calls Tryz.prog 28 #[t.val,v,.int .u64 D] w fun r w'=> ∃u xs DS,r= .returned (.tuple #[YB zs.length D u,.int .i64 0])∧(w'.ownsRow w.heap.size 69 2 u ((t.rowsOf zs.length).length - 1) xs∧ListsV w.heap.size w' xs (t.llZ I z1 z2 zs D ((t.rowsOf zs.length).length - 1)) DS)∧Below w.heap.size w w':=by
 obtain⟨b0,aq⟩:=Ex w.heap.size;obtain⟨i8,df,cJ,cO,cH⟩:=info_parts Qr;obtain⟨iS,c8,dt,dy,dk⟩:=info_parts qcE;have ht:(zs.length:Int)≤18446744073709551615:=by omega
 have br:=YS h.v hn;have F:=YN h.l ht he;obtain⟨cC,dA,i1,i2,ca⟩:=qa7 h.l ht he;have hR:=qM br;have hL:=Qt h.v h.l I z1 z2 zs;have cn:=yc br I z1 z2 (YP h.v h.l I z1 z2 zs) hL.2.2;obtain⟨m,hm⟩:=Ex ((t.rowsOf zs.length).length - 1);have d5:1≤m:=by have:=F.two;omega
 have dW:m≤255:=by have:=F.most;omega
 have du:(t.rowsOf zs.length).length=m+1:=by have:=F.two;omega
 have aZ:=qeG t h.l zs.length ht D he;rw[hm]at aZ;have HW:=hid aZ;have aH:=hid (fun(W:World) (hb:Below b0 w W)=>qha t I z1 z2 zs v W h.l (h.k.below (aq▸hb)) (h.s.below (aq▸hb)) (h.p.below (aq▸hb)) (hv.below (aq▸hb)) hn);have bN: ∀k,k<m→ ∃f c d:Nat,(qB t zs.length D (k+1)).frm=f∧(qB t zs.length D (k+1)).to_=d∧chI t zs.length D k=(c:Nat)∧f+c<d∧d≤(t.lvlZ I z1 z2 (t.leafZ I z1 z2 zs) k).length∧(t.lvlZ I z1 z2 (t.leafZ I z1 z2 zs) k).length≤4194305∧(t.rowsZ I z1 z2 zs).getD k []=t.lvlZ I z1 z2 (t.leafZ I z1 z2 zs) k∧k<(t.rowsZ I z1 z2 zs).length∧(∀j,(qK (t.lvlZ I z1 z2 (t.leafZ I z1 z2 zs) k) j).length≤64)∧
   t.stepZ I z1 z2 zs D k=(((t.lvlZ I z1 z2 (t.leafZ I z1 z2 zs) k).drop f).take c,((t.lvlZ I z1 z2 (t.leafZ I z1 z2 zs) k).drop (f+c+1)).take (d - (f+c) - 1)):=fun k hk=>by
  have hK:=cC k (by omega);have bg:=qhR hK;have dz:=Yy (l:=t.ln) (by have:=(qo h.v).2.2.2.2.2.2.2.2.1;have:=h.l;unfold TreeV.ln;omega) hR (k:=k+1) (by omega) (by omega) (Yv hR (qaa h.l he).2.2.2 (k+1) (by omega));have dw:=cn k (by omega);have hF:=Qk h.v I z1 z2 hL.1 hL.2.2 k;have e1:=hK.le;have e2:=hK.lt;have aO:=jr h.v I z1 z2 zs (k:=k) (by omega);refine⟨_,chN t zs.length D k,_,rfl,rfl,bg,?_,?_,by have:=hL.2.1;omega,aO.1,aO.2,fun j=>?_,?_⟩
  ·unfold chN;omega
  ·rw[dw];exact dz
  ·unfold qK;rw[Lg]
   cases e:(t.lvlZ I z1 z2 (t.leafZ I z1 z2 zs) k)[j]? with
   | none=>simp
   | some z=>exact hF.2.2 z (List.mem_of_getElem? e)
  ·unfold TreeV.stepZ chN;rw[show(qB t zs.length D (k+1)).frm+(Qp t.fn (t.rowsOf zs.length) D k - (qB t zs.length D (k+1)).frm)=Qp t.fn (t.rowsOf zs.length) D k by omega]
 have cK:=hid bN;have dm:Hid (∀k,(qB t zs.length D k).row=k):=hid (fun k=>(Zr _ _ _ _ _ _).1);have cF:Hid (∀k,t.llZ I z1 z2 zs D (k+1)=t.llZ I z1 z2 zs D k++[(t.stepZ I z1 z2 zs D k).1]++[(t.stepZ I z1 z2 zs D k).2]):=hid (fun k=>rfl);have cQ:Hid (t.llZ I z1 z2 zs D 0=[]):=hid rfl;have cU:Hid (∀k,(t.llZ I z1 z2 zs D k).length=k*2):=hid (t.llZ_length I z1 z2 zs D);have d3:IntKind.u64.wrap (zs.length:Int)=(zs.length:Int):=u64_wrap_id _ (by omega) (by omega);have dL:Hid (t.validE=0):=hid h.v;obtain⟨va,vc,rfl, -, -⟩:=id hv.slice;rw[ca]at aH;rw[hm];clear F cC dA i1 i2 ca hm du aZ bN hR hL cn br he h hv hn;unfold TreeV.val YB at*;go_enter Tryz.func28,Tryz.ntmps28
 go_upto_region 1 with(fail)
 refine qn ?_;intro wA bc;have bH:wA.heap[b0]? =some (.cells #[.int .i64 t.k,.int .i64 t.d,.int .i64 t.f,.int .i64 t.p,.int .u32 t.l,.int .i64 t.i,.slice t.ka t.kl t.kc,.slice t.sa t.sl t.sc,.slice t.pa t.pl t.pc] 26 (0,0)):=by rw[bc];exact(Bh _ _ _ (by simp;omega)).trans (qe _ _ aq.symm)
 have bQ:wA.heap[b0+1]? =some (.cells #[.int .u64 0,.int .u64 0,.slice none 0 0] 55 (0,0)):=by rw[bc];exact qe _ _ (by simp;omega)
 have ce:Below b0 w wA:=by rw[bc,←aq];exact(Br.alloc Nl _).alloc (by simp) _
 have dd:b0+1<wA.heap.size:=(Ai bQ).1;clear bc;go_wp2_with ((with_reducible show wpList _ _ _ (Oper.mk _ (Op.load 26 _) _ _ _ _::_) _ _);refine wpList_load_row rfl 26 _ rfl b0 rfl _ _ _ _ bH Tryz.underlying26 rfl (by kernel_rfl) ?_)
 refine(HW.out wA).mono ?_;rintro e w2 ⟨g,dP,rfl,cf,aV⟩;have bl:=qg bH aV;have bK:=hid (qg bQ aV);have bx:=hid (ce.trans (aV.mono (show b0≤wA.heap.size by omega)));have bs:=hid cf;have dv:b0+1<w2.heap.size:=by have:=aV.size;omega
 clear cf aV ce bH bQ HW dd;clear wA;go_wp2_with ((with_reducible show wpList _ _ _ (Oper.mk _ (Op.load 26 _) _ _ _ _::_) _ _);refine wpList_load_row rfl 26 _ rfl b0 rfl _ _ _ _ bl Tryz.underlying26 rfl (by kernel_rfl) ?_)
 refine(aH.out w2 bx.out).mono ?_;rintro e w5 ⟨ru,cW,rfl,bk,aJ⟩;have cE:=hid (qg bK.out aJ);have dx:=hid (bx.out.trans (aJ.mono (show b0≤w2.heap.size by omega)));have bE:=hid (bs.out.below aJ);have cu:=hid (bk.le (Nat.zero_le _));obtain⟨ra,rc,rfl,dU⟩:=bk.formP;obtain⟨G,bf⟩:=Ex w5.heap.size;have d0:b0+1<G:=by have:=aJ.size;omega
 clear bk aJ bs bK bx bl dv aH;clear w2;go_upto_region 9 with(fail)
 refine qn ?_;intro wB bC;have cy:wB.heap[G]? =some (.cells #[.int .u64 zs.length,.int .u64 D,.slice none 0 0] 55 (0,0)):=by rw[bC];exact qe _ _ bf.symm
 have ck:Below G w5 wB:=by rw[bC,←bf];exact Br.alloc Nl _
 have ay:=hid cy;have cw:=hid ck;clear bC cy ck;go_wp2_with fail
 go_loopw [49] (fun i wr=> ∃(k:Nat) (u:Value) (xs:List Value) (DS:List (List Value)),i= .int .i64 (k:Nat)∧k≤m∧wr.heap[G]? =some (.cells #[.int .u64 zs.length,.int .u64 D,u] 55 (0,0))∧wr.ownsRow G 69 2 u k xs∧ListsV G wr xs (t.llZ I z1 z2 zs D k) DS∧Below G w5 wr) (fun i _=>m - (intOf i).toNat)
 case atStart=>exact⟨0,_,[],[],rfl,Nat.zero_le _,ay.out,Wo _ _ _ _,by rw[cQ.out];exact ListsV.nil _ _,cw.out⟩
 case round=>
  clear ay cw;obtain⟨k,u,xs,DS,rfl,hk,az,an,be,hb⟩:=hrel;have di:G≤wr.heap.size:=by have:=hb.size;omega
  have cD:G<wr.heap.size:=(Ai az).1;obtain⟨ua,uc,rfl⟩:=ym an;by_cases cj:k<m
  case pos=>
   have dF:(k:Int)<(m:Int):=by omega
   obtain⟨f,c,d,hf,hd,bg,dM,bd,dT,aO,bj,cB,cb⟩:=cK.out k cj;obtain⟨s0,s1,s2,s3,s4,s5,s6⟩:=bE.out.2 k cj;dsimp only at s0 s1 s2 s3 s4 s5 s6;rw[dm.out,show((k+1:Nat):Int)=(k:Int)+1 by omega]at s0;rw[hf]at s2;rw[hd]at s3;rw[bg]at s6;have bF:=cF.out k;rw[cb]at bF;have ch:=cU.out k;have aX:=cu.out.2.1 k bj;rw[aO]at aX;obtain⟨gR,cR,e1,de,b6⟩:=cu.out.getP bj;simp only[Value.slice.injEq,true_and]at e1;obtain⟨rfl,rfl⟩:=e1;generalize t.lvlZ I z1 z2 (t.leafZ I z1 z2 zs) k=R at*;generalize cW.getD k undef=X at*;obtain⟨Xa,cX,rfl,dr,aM,b8⟩:=aX.hold;obtain⟨gX,oX,rfl,c7,cx⟩:=b8.resolve_left (fun e=>by rw[e]at bd;simp at bd;omega);have cV:=hid cx;have dl:=hid cB;have dg:=hid bF;have au:=hid ch;have a6:=hid bd;generalize ((qB t zs.length D (k+1)).at_:Int)=A at*;generalize (qB t zs.length D (k+1)).last=la at*;generalize (qB t zs.length D (k+1)).root=ro at*;have dJ:g<w5.heap.size:=bE.out.1;have ao: ∀o,wr.cell? ⟨g,o,none⟩=w5.cell? ⟨g,o,none⟩:=fun o=>hb.cell (p:=⟨g,o,none⟩) (by show g<G;omega)
   have c0:=(ao _).trans s0;have c1:=(ao _).trans s1;have c2:=(ao _).trans s2;have c3:=(ao _).trans s3;have c4:=(ao _).trans s4;have c5:=(ao _).trans s5;have c6:=(ao _).trans s6;have cL:g<wr.heap.size:=by omega
   have am:=hid an;have aC:=hid be;have HB:=hid hb;have ay:=hid az;have bn:=hid (qm an);have dO:(d:Int)≤4194305:=by omega
   have dZ:(f:Int)≤d:=by omega
   have dX:(d:Int)≤cX:=by omega
   have dR:(k:Int)<(t.rowsZ I z1 z2 zs).length:=by omega
   clear s0 s1 s2 s3 s4 s5 s6 ao hf hd bg aO cb bF ch aX b8 cx cB bd an be hb az dr bj;obtain⟨J,aN⟩:=Ex wr.heap.size;go_upto_region 13 with(fail)
   refine qn ?_;intro Y hY;have aS:Y.heap[J]? =some (.cells #[.int .i64 ((k:Int)+1),.int .u64 A,.int .u64 (f:Nat),.int .u64 (d:Nat),.bool la,.bool ro,.int .u64 (c:Nat)] 127 (0,0)):=by rw[hY];exact(Bh _ _ _ (by simp;omega)).trans (qe _ _ aN.symm)
   have bJ:Y.heap[J+1]? =some (.cells #[.slice none 0 0,.slice none 0 0] 69 (0,0)):=by rw[hY];exact qe _ _ (by simp;omega)
   have bO:Below J wr Y:=by rw[hY,←aN];exact(Br.alloc Nl _).alloc (by simp) _
   have dq:J+1<Y.heap.size:=(Ai bJ).1;have a7:Below G w5 Y:=HB.out.trans (bO.mono (by omega));have bX:=hid bO;have cI:=hid a7;have cr:=hid aS;have cd:=hid bJ;have t0:Y.cell? ⟨J,0,none⟩=some (.int .i64 ((k:Int)+1)):=qd aS 0;have t2:Y.cell? ⟨J,2,none⟩=some (.int .u64 (f:Nat)):=qd aS 2;have t3:Y.cell? ⟨J,3,none⟩=some (.int .u64 (d:Nat)):=qd aS 3;have tX:Y.cell? ⟨gR,k,none⟩=some (.slice (some ⟨gX,oX,none⟩) R.length cX):=(a7.cell (p:=⟨gR,k,none⟩) (by show gR<G;omega)).trans b6;have cM:gR<Y.heap.size:=by omega
   have dG:gX<G:=by omega
   clear hY aS bJ bO a7 c0 c1 c2 c3 c4 c5 c6 b6 de c7 cL;go_quiet (fail)
   go_upto_region 14 with(fail)
   refine qn ?_;intro V hV;have bt:Below Y.heap.size Y V:=by rw[hV];exact below_draws _ _ _
   have bh:=hid bt;have dY:J+1<V.heap.size:=by have:=bt.size;omega
   clear hV bt t0 t2 t3 tX cM;have cA:Hid (V.heap[J]? =some (.cells #[.int .i64 ((k:Int)+1),.int .u64 A,.int .u64 (f:Nat),.int .u64 (d:Nat),.bool la,.bool ro,.int .u64 (c:Nat)] 127 (0,0))):=hid (qg cr.out bh.out);have cl:Hid (V.heap[J+1]? =some (.cells #[.slice none 0 0,.slice none 0 0] 69 (0,0))):=hid (qg cd.out bh.out);have aP:Below J wr V:=bX.out.trans (bh.out.mono (by omega));have cz:Hid (V.heap[G]? =some (.cells #[.int .u64 zs.length,.int .u64 D,.slice ua k uc] 55 (0,0))):=hid (qg ay.out (aN▸aP));have bZ:Hid (V.ownsRow G 69 2 (.slice ua k uc) k xs):=hid (qF am.out (fun q U=>aP.block q (by have:=bn.out q U;omega)));have b5:Hid (ListsV G V xs (t.llZ I z1 z2 zs D k) DS):=hid (aC.out.below (aN▸aP));have bW:Hid (Below G w5 V):=hid (HB.out.trans (aP.mono (by omega)));have aF:Hid (∀q,(Value.slice ua k uc).ownBlock=some q→q<J):=hid (fun q U=>by have:=bn.out q U;omega);have bu:=hid (aC.out.lx.trans au.out);have d4:=hid (aC.out.ld.trans au.out);have dC:G<J:=by omega
   clear dq aP bX cI cr cd bh ay am bn aC HB di cD aN;clear Y;clear wr;go_wp2_with fail
   go_loopw [69] (fun i wr=> ∃(j:Nat) (bv av:Value) (E:List (List Value)),i= .int .i64 (j:Nat)∧j≤d - f∧wr.heap[J]? =some (.cells #[.int .i64 ((k:Int)+1),.int .u64 A,.int .u64 (f:Nat),.int .u64 (d:Nat),.bool la,.bool ro,.int .u64 (c:Nat)] 127 (0,0))∧wr.heap[J+1]? =some (.cells #[bv,av] 69 (0,0))∧wr.heap[G]? =some (.cells #[.int .u64 zs.length,.int .u64 D,.slice ua k uc] 55 (0,0))∧wr.ownsRow G 69 2 (.slice ua k uc) k xs∧ListsV G wr (xs++[bv]++[av]) (t.llZ I z1 z2 zs D k++[(R.drop f).take (min j c)]++[(R.drop (f+c+1)).take (j - c - 1)]) E∧Below G w5 wr) (fun i _=>d - f - (intOf i).toNat)
   case atStart=>exact⟨0,_,_,_,rfl,Nat.zero_le _,cA.out,cl.out,cz.out,bZ.out,by rw[Nat.zero_min,List.take_zero,Nat.zero_sub,Nat.zero_sub,List.take_zero];exact b5.out.more.more,bW.out⟩
   case round=>
    clear cA cl cz bZ b5 bW;obtain⟨j,bv,av,E,rfl,hj,ba,ax,bb,bM,aR,ar⟩:=hrel;have aM:=bu.out;have aA:(t.llZ I z1 z2 zs D k).length=k*2:=au.out;have aT:=aR.each (k*2) (by simp[aA]);have aL:=aR.each (k*2+1) (by simp[aA]);rw[(Zp xs bv av bv undef aM).1,(Zp _ _ _ [] [] aA).1]at aT;rw[(Zp xs bv av bv undef aM).2.1,(Zp _ _ _ [] [] aA).2.1]at aL;obtain⟨aa,ad,af,rfl⟩:=Qg aT.1;obtain⟨ab,ae,ac,rfl⟩:=Qg aL.1;have dQ:J+1<wr.heap.size:=(Ai ax).1;have g6:wr.cell? ⟨J,6,none⟩=some (.int .u64 (c:Nat)):=qd ba 6;have q0:wr.cell? ⟨J+1,0,none⟩=some (.slice aa ad af):=qd ax 0;have q1:wr.cell? ⟨J+1,1,none⟩=some (.slice ab ae ac):=qd ax 1;have p2:wr.cell? ⟨G,2,none⟩=some (.slice ua k uc):=qd bb 2;have dj:G<wr.heap.size:=by omega
    have ct:=hid ba;have ci:=hid ax;have a9:=hid bb;have aB:=hid bM;have aD:=hid aR;have bm:=hid ar;have co:=hid aT;have cp:=hid aL;by_cases dK:j<d - f
    case pos=>
     have dH:(j:Int)<(d:Int) - (f:Int):=by omega
     obtain⟨x,hx,cv⟩:=cV.out (f+j) (by have:=a6.out;omega);have cT:=dl.out (f+j);have b4:wr.cell? ⟨gX,oX+(f+j),none⟩=some x:=(ar.cell (p:=⟨gX,oX+(f+j),none⟩) (by show gX<G;omega)).trans hx;have aE:=(cv.below (bf▸ar));rw[show oX+(f+j)=oX+f+j by omega]at b4;have cm:((R.drop f).take (j+1))=(R.drop f).take j++[qK R (f+j)]:=jv (by have:=a6.out;omega);have bP:c<j→(R.drop (f+c+1)).take (j - c)=(R.drop (f+c+1)).take (j - c - 1)++[qK R (f+j)]:=fun hc=>by
      have:=jv (L:=R) (f:=f+c+1) (j:=j - c - 1) (by have:=a6.out;omega)
      rw[show j - c - 1+1=j - c by omega,show f+c+1+(j - c - 1)=f+j by omega]at this;exact this
     generalize qK R (f+j)=z at*;obtain⟨xa,xc,rfl, -, -⟩:=id aE.slice;have b9:=hid aE.src;have bV:=hid aE.1;have dh:=hid cm;have cN:=hid bP;have cG:gX<wr.heap.size:=by omega
     clear ba ax bb bM aR ar aT aL hx cv aE cm bP aM aA;go_upto_region 18 with(at_builtin;refine qT rfl _ _ _ rfl wr wr.heap.size rfl Br 5 i8 (.int .u8 0) 1 Tryz.underlying24 df cJ cO cH rfl (.slice none 0 0) 0 [] rfl (Wo _ _ _ _) _ _ _ rfl b9.out (by unfold maxLen;omega) (by omega) ?_;intro v' w' a8 ai)
     have aI:w'.ownsRow wr.heap.size 5 1 v' z.length (z.map qt):=by simpa using a8
     have bD:OwnB wr.heap.size w' v' z:=⟨bV.out,yI aI⟩;obtain⟨da,dn,dc,rfl⟩:=Qg aI;have bA:=qg ct.out ai;have aG:=qg ci.out ai;have cq:=qg a9.out ai;have aU:=hid (qF aB.out (fun q U=>ai.block q (qm aB.out q U)));have bo:=hid (aD.out.below ai);have bI:=hid (bm.out.trans (ai.mono (by omega)));have bi:=hid (show ∀g,(Value.slice da dn dc).ownBlock=some g→ ∀b i,(dgV E b i).ownBlock≠some g from fun g hg b i e=>by
      have:=(zm bD g hg).1
      have:=(aD.out.dlt b i g e).2
      omega)
     have bY:=hid (bD.le (show G≤wr.heap.size by omega));have a3:=co.out.1;have a5:=cp.out.1;have aW:=hid (qF a3 (fun q U=>ai.block q (qm a3 q U)));have a4:=hid (qF a5 (fun q U=>ai.block q (qm a5 q U)));have bL:G≤w'.heap.size:=by have:=ai.size;omega
     have dI:J+1<w'.heap.size:=by have:=ai.size;omega
     have n6:w'.cell? ⟨J,6,none⟩=some (.int .u64 (c:Nat)):=qd bA 6;have n0:w'.cell? ⟨J+1,0,none⟩=some (.slice aa ad af):=qd aG 0;have n1:w'.cell? ⟨J+1,1,none⟩=some (.slice ab ae ac):=qd aG 1;have bq:=hid bA;have bR:=hid aG;have bz:=hid cq;have dV:IntKind.u64.wrap (j:Int)=(j:Int):=u64_wrap_id _ (by omega) (by omega);have cS:((R.drop f).take (min j c)).length≤8388608∧((R.drop (f+c+1)).take (j - c - 1)).length≤8388608:=by simp only[List.length_take];omega
     obtain⟨bS,bU⟩:=cS;clear a8 aI bD bA aG cq a3 a5 ai ct ci a9 aB bm co cp g6 q0 q1 p2 b4 cG aD b9 bV cT;by_cases db:j<c
     case pos=>
      go_wp2_with (at_builtin;refine Ju rfl _ _ rfl G (.slice aa ad af) _ _ (.slice da dn dc) rfl aW.out rfl rfl bS bL ?_;intro v' ah ho hk aj aK;obtain⟨na,nn,nc,rfl⟩:=Qg ho;have stay: ∀(p:Nat) (cs:Array Value) (T:TypeId),T≠24→w'.heap[p]? =some (.cells cs T (0,0))→ah.heap[p]? =some (.cells cs T (0,0)):=(fun p cs T hT hp=>(aj.block p (Ai hp).1 (fun e=>QQ aW.out hp hT p e rfl)).trans hp);have O:=stay _ _ _ (by decide) bR.out;have n0:ah.cell? ⟨J+1,0,none⟩=some (.slice aa ad af):=qd O 0;obtain⟨-,fz⟩:=ze O;have cg:J+1<ah.heap.size:=(Ai O).1;have al:=hid stay;have aw:=hid ho;have ap:=hid hk;have ak:=hid aj;have aY:=hid aK;have ag:=hid O;clear ho hk aj aK stay O)
      have Z:=(But.refl (J+1) ah).set 0 (.slice na nn nc);have a1:=Zp xs (.slice aa ad af) (.slice ab ae ac) (.slice na nn nc) undef bu.out;have a2:=Zp (t.llZ I z1 z2 zs D k) ((R.drop f).take (min j c)) ((R.drop (f+c+1)).take (j - c - 1)) (((R.drop f).take (min j c))++[z]) [] au.out;have hP:=ListsV.put (v':= .slice na nn nc) (x:= .slice da dn dc) (z:=z) (a:=(k*2)) bo.out (by simp[au.out]) (by rw[a2.1];exact aw.out) bY.out ap.out (by rw[a1.1];exact ak.out) (by rw[a1.1];exact aY.out) bi.out;rw[a1.2.2.1,a2.1,a2.2.2.1]at hP;have e9:(R.drop f).take (min j c)++[z]=(R.drop f).take (min (j+1) c):=by rw[Nat.min_eq_left (by omega),Nat.min_eq_left (by omega),dh.out]
      rw[e9,show j - c - 1=j+1 - c - 1 by omega]at hP;have aQ:(ah.setCell ⟨J+1,0,none⟩ (.slice na nn nc)).ownsRow G 69 2 (.slice ua k uc) k xs:=qF (qF aU.out (yg aW.out aU.out (by decide) ak.out)) (fun q U=>Z.block q (by have:=aF.out q U;omega) (by have:=aF.out q U;omega));exact⟨⟨j+1,.slice na nn nc,.slice ab ae ac,_,by go_num,by omega,(Z.block J (by omega) (by omega)).trans (al.out _ _ _ (by decide) bq.out),block_setCell ag.out _,(Z.block G (by omega) (by omega)).trans (al.out _ _ _ (by decide) bz.out),aQ,hP.off ag.out (by decide) (by decide) Z,(bI.out.trans ap.out.below).setCell (by show G≤J+1;omega) _⟩,by simp[intOf];omega⟩
     have dD:(j<c)=False:=eq_false db;by_cases cZ:c<j
     case pos=>
      go_wp2_with (at_builtin;refine Ju rfl _ _ rfl G (.slice ab ae ac) _ _ (.slice da dn dc) rfl a4.out rfl rfl bU bL ?_;intro v' ah ho hk aj aK;obtain⟨na,nn,nc,rfl⟩:=Qg ho;have stay: ∀(p:Nat) (cs:Array Value) (T:TypeId),T≠24→w'.heap[p]? =some (.cells cs T (0,0))→ah.heap[p]? =some (.cells cs T (0,0)):=(fun p cs T hT hp=>(aj.block p (Ai hp).1 (fun e=>QQ a4.out hp hT p e rfl)).trans hp);have O:=stay _ _ _ (by decide) bR.out;have n0:ah.cell? ⟨J+1,1,none⟩=some (.slice ab ae ac):=qd O 1;obtain⟨-,fz⟩:=ze O;have cg:J+1<ah.heap.size:=(Ai O).1;have al:=hid stay;have aw:=hid ho;have ap:=hid hk;have ak:=hid aj;have aY:=hid aK;have ag:=hid O;clear ho hk aj aK stay O)
      have Z:=(But.refl (J+1) ah).set 1 (.slice na nn nc);have a1:=Zp xs (.slice aa ad af) (.slice ab ae ac) (.slice na nn nc) undef bu.out;have a2:=Zp (t.llZ I z1 z2 zs D k) ((R.drop f).take (min j c)) ((R.drop (f+c+1)).take (j - c - 1)) (((R.drop (f+c+1)).take (j - c - 1))++[z]) [] au.out;have hP:=ListsV.put (v':= .slice na nn nc) (x:= .slice da dn dc) (z:=z) (a:=(k*2+1)) bo.out (by simp[au.out]) (by rw[a2.2.1];exact aw.out) bY.out ap.out (by rw[a1.2.1];exact ak.out) (by rw[a1.2.1];exact aY.out) bi.out;rw[a1.2.2.2,a2.2.1,a2.2.2.2]at hP;have e9:(R.drop (f+c+1)).take (j - c - 1)++[z]=(R.drop (f+c+1)).take (j+1 - c - 1):=by rw[show j+1 - c - 1=j - c by omega,cN.out (by omega)]
      rw[e9,show min j c=min (j+1) c by omega]at hP;have aQ:(ah.setCell ⟨J+1,1,none⟩ (.slice na nn nc)).ownsRow G 69 2 (.slice ua k uc) k xs:=qF (qF aU.out (yg a4.out aU.out (by decide) ak.out)) (fun q U=>Z.block q (by have:=aF.out q U;omega) (by have:=aF.out q U;omega));exact⟨⟨j+1,.slice aa ad af,.slice na nn nc,_,by go_num,by omega,(Z.block J (by omega) (by omega)).trans (al.out _ _ _ (by decide) bq.out),block_setCell ag.out _,(Z.block G (by omega) (by omega)).trans (al.out _ _ _ (by decide) bz.out),aQ,hP.off ag.out (by decide) (by decide) Z,(bI.out.trans ap.out.below).setCell (by show G≤J+1;omega) _⟩,by simp[intOf];omega⟩
     have dE:(c<j)=False:=eq_false cZ;obtain rfl:j=c:=by omega
     go_wp2_with fail
     refine⟨⟨j+1,_,_,E,by go_num,by omega,bq.out,bR.out,bz.out,aU.out,?_,bI.out⟩,by simp[intOf];omega⟩;have U:=bo.out;rw[show min j j=min (j+1) j by omega,show j - j - 1=j+1 - j - 1 by omega]at U;exact U
    obtain rfl:j=d - f:=by omega
    have dN:(Value.slice aa ad af).oneCell'=true∧(Value.slice ab ae ac).oneCell'=true:=⟨rfl,rfl⟩;clear ba ax bb bM aR ar aT aL aM aA;have dS:(k:Int)+1≤256:=by omega
    have bT:G≤wr.heap.size:=by omega
    go_wp2_with (at_builtin;refine QS rfl _ _ _ rfl G 69 (by decide) iS _ 2 48 Tryz.underlying53 c8 dt dy dk rfl (by decide) (.slice ua k uc) k xs [.slice aa ad af,.slice ab ae ac] _ rfl aB.out rfl rfl (by simp[Value.oneCell']) (by unfold maxLen;omega) (by omega) bT ?_;intro v' w' ho hk aj;obtain⟨na,nn,nc,rfl⟩:=Qg ho;have O:w'.heap[G]? =some (.cells #[.int .u64 zs.length,.int .u64 D,.slice ua k uc] 55 (0,0)):=(aj.block G dj (fun e=>QQ aB.out a9.out (by decide) G e rfl)).trans a9.out;have n2:w'.cell? ⟨G,2,none⟩=some (.slice ua k uc):=qd O 2;obtain⟨-,fz⟩:=ze O;have cg:G<w'.heap.size:=(Ai O).1;have aw:=hid ho;have ap:=hid hk;have ak:=hid aj;have ag:=hid O;clear ho hk aj O)
    have Z:=(But.refl G w').set 2 (.slice na nn nc);have c9:ListsV G w' (xs++[.slice aa ad af]++[.slice ab ae ac]) _ E:=aD.out.keep ap.out (fun a q U=>ak.out.block q (aD.out.xlt a q U).2 (fun e=>by
     obtain⟨cc,dp⟩:=Qh aB.out q e;exact aD.out.xoff dp (by decide) a q U rfl))
    have b7:=c9.off ag.out (by decide) (by decide) Z;rw[show min (d - f) c=c by omega,show d - f - c - 1=d - (f+c) - 1 by omega,←dg.out]at b7;have aQ:(w'.setCell ⟨G,2,none⟩ (.slice na nn nc)).ownsRow G 69 2 (.slice na nn nc) (k+1) (xs++[.slice aa ad af]++[.slice ab ae ac]):=by
     have e:xs++[Value.slice aa ad af]++[.slice ab ae ac]=xs++[.slice aa ad af,.slice ab ae ac]:=by simp
     rw[e];exact qF aw.out (fun q U=>Z.block q (qm aw.out q U) (fun e=>QQ aw.out ag.out (by decide) q U e))
    exact⟨⟨k+1,_,_,E,by go_num,by omega,block_setCell ag.out _,aQ,b7,(bm.out.trans ap.out.below).setCell Nl _⟩,by simp[intOf];omega⟩
  obtain rfl:m=k:=by omega
  have am:=hid an;have aC:=hid be;have ay:=hid az;have bG:=qg cE.out (bf▸hb);have cY:=hid (dx.out.trans (hb.mono (show b0≤G by omega)));obtain⟨cR,fR⟩:=ze bG;obtain⟨cP,fP⟩:=ze az;have ax:b0+1<wr.heap.size:=by omega
  have b3:=hid bG;clear an be az bG hb;go_wp2_with fail
  have Z:=((((But.refl (b0+1) wr).set 0 (.int .u64 zs.length)).set 1 (.int .u64 D)).set 2 (.slice ua m uc));exact Bp (qA rfl _ _ _ _ _ _ _ rfl (ZC b3.out _ _ _) Tryz.underlying55 rfl (by kernel_rfl)) rfl ⟨_,xs,DS,rfl,by rw[aq];exact⟨ownsRow_le (qF am.out (fun q U=>Z.block q (qm am.out q U) (by have:=Qy am.out q U;omega))) (by omega),(aC.out.off b3.out (by decide) (by decide) Z).le (by omega)⟩,by rw[aq];exact ZE cY.out (by omega) _ _ _⟩
end Go.Proofs.YthjoojnlnlmljaaGreat
