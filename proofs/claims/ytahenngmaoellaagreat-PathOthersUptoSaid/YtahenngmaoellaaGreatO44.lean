/- Lemmas. No condition. -/
import Derived.Test.YtahenngmaoellaaGreatO42
import Derived.Test.YtahenngmaoellaaGreatO43
set_option linter.all false
set_option maxRecDepth 100000
set_option maxHeartbeats 0
namespace Go.Proofs.YtahenngmaoellaaGreat
open Go.ChangeShapes Go.WideShapes Go.ChangeAt Go.RowKit Go.Joins Go.Shelf Go.Maps
open Go.Lib (hid)
attribute [local go_sem] Oper.semAt_some
theorem qeR (t:TreeV)(kz z1 z2 ds:List Int)(total:Nat)(J:(total:Int)<=18446744073709551615)(S:SpotV)(D:Option Addr)(q:Nat)(w:World)(h:TreeOk t kz z1 z2 w)(o:SpotOk t total S)(I:Hold w (.slice D ds.length q) ds)(G:ds.length<=1073741824):
  Calls Tryz.prog 102 #[t.val,.int .u64 total,.agg #[.int .i64 (S.row:Nat),.int .u64 (S.at_:Nat),.int .u64 (S.frm:Nat),.int .u64 (S.to_:Nat),.bool S.last,.bool S.root],.slice D ds.length q] w fun e w'=> ∃u,e= .returned u/\OwnB w.heap.size w' u (t.giveZ kz z1 z2 S ds)/\Below w.heap.size w w':=
 qgd t kz z1 z2 ds total J S.row S.at_ S.frm S.to_ S.last S.root D q w h o.p o.r o.e o.s I G
def SpotAll (w:World)(g:Nat)(S:SpotV)(j:Nat):Prop:=
 w.cell? ⟨g,j*6,none⟩=some (.int .i64 (S.row:Nat))/\w.cell? ⟨g,j*6+1,none⟩=some (.int .u64 (S.at_:Nat))/\w.cell? ⟨g,j*6+2,none⟩=some (.int .u64 (S.frm:Nat))/\w.cell? ⟨g,j*6+3,none⟩=some (.int .u64 (S.to_:Nat))/\w.cell? ⟨g,j*6+4,none⟩=some (.bool S.last)/\w.cell? ⟨g,j*6+5,none⟩=some (.bool S.root)
theorem SpotAll.below {w w':World}{g:Nat}{S:SpotV}{j:Nat}(h:SpotAll w g S j)(q:g<w.heap.size)(o:Below w.heap.size w w'):SpotAll w' g S j:=by
 obtain⟨D,I,G,O,r,J⟩:=h;exact⟨(o.cell (p:=⟨g,_,none⟩) q).trans D,(o.cell (p:=⟨g,_,none⟩) q).trans I,(o.cell (p:=⟨g,_,none⟩) q).trans G,(o.cell (p:=⟨g,_,none⟩) q).trans O,(o.cell (p:=⟨g,_,none⟩) q).trans r,(o.cell (p:=⟨g,_,none⟩) q).trans J⟩
theorem qc2 {t:TreeV}{total leaf:Nat}{w:World}{b g m q:Nat}(h:w.ownsRow b 96 6 (.slice (some ⟨g,0,none⟩) (m+1) q) (m+1) (ZF t total leaf (m+1))):
  g<w.heap.size/\ ∀j,j<m+1->SpotAll w g (qu t total leaf j) j:=by
 refine⟨(h.lt g (by simp[Value.ownBlock])).2,fun j o=>⟨?_,?_,?_,?_,?_,?_⟩⟩
 · rw[show j*6=6*j+0 by omega];exact(h.cellAt (6*j+0) (by omega)).trans (YK t total leaf (m+1) j 0 o (by omega))
 · rw[show j*6+1=6*j+1 by omega];exact(h.cellAt (6*j+1) (by omega)).trans (YK t total leaf (m+1) j 1 o (by omega))
 · rw[show j*6+2=6*j+2 by omega];exact(h.cellAt (6*j+2) (by omega)).trans (YK t total leaf (m+1) j 2 o (by omega))
 · rw[show j*6+3=6*j+3 by omega];exact(h.cellAt (6*j+3) (by omega)).trans (YK t total leaf (m+1) j 3 o (by omega))
 · rw[show j*6+4=6*j+4 by omega];exact(h.cellAt (6*j+4) (by omega)).trans (YK t total leaf (m+1) j 4 o (by omega))
 · rw[show j*6+5=6*j+5 by omega];exact(h.cellAt (6*j+5) (by omega)).trans (YK t total leaf (m+1) j 5 o (by omega))
theorem qf1 (t:TreeV)(D:0<=t.l/\t.l<=4294967295)(total:Nat)(G:(total:Int)<=18446744073709551615)(leaf:Nat)(J:t.spotE total 0 leaf=0)(w:World):
  Calls Tryz.prog 74 #[t.val,.int .u64 total,.int .u64 leaf] w fun e w'=> ∃g q,e= .returned (.tuple #[.slice (some ⟨g,0,none⟩) ((t.rowsOf total).length - 1+1) q,.int .i64 0])/\
   g<w'.heap.size/\(∀j,j<(t.rowsOf total).length - 1+1->SpotAll w' g (qu t total leaf j) j)/\Below w.heap.size w w':=by
 have F:=Yq D G J;have I:(t.rowsOf total).length - 1+1=(t.rowsOf total).length:=by have:=F.two;omega
 refine(qhC t total leaf F.two F.most (hid fun k r w=>?_) (hid fun k r w=>?_) (hid F.cells) w).mono ?_
 · have:=yQ t D total G (k:Nat) (Qg t.fn (t.rowsOf total) leaf k) w
   rw[(F.spot k r).1,(F.spot k r).2]at this;exact this
 · have:=qcO t D total G (k:Nat) (Qg t.fn (t.rowsOf total) leaf k) (F.at_ k (by omega)) w
   rw[(F.par k r).1,(F.par k r).2]at this;exact this
 · rintro e w' ⟨v,rfl,o,O⟩
   obtain⟨g,q,rfl⟩:=ownsRow_form o (by have:=F.two;omega);rw[<-I]at o⊢;exact⟨g,q,rfl,(qc2 o).1,(qc2 o).2,O⟩
theorem qeN (t:TreeV)(X:0<=t.l/\t.l<=4294967295)(total leaf:Nat)(Z:(total:Int)<=18446744073709551615)(S:t.spotE total 0 leaf≠0)(u v:Value)(w:World):
  Calls Tryz.prog 59 #[t.val,.agg #[.int .u64 total,.int .u64 leaf,u],v] w fun r w'=>r= .returned (.tuple #[.slice none 0 0,.int .i64 (t.spotE total 0 leaf)])/\Below w.heap.size w w':=by
 obtain⟨q,I⟩:=Ex w.heap.size;have Y:=hid (qeH t X total Z leaf S);have hq:(t.spotE total 0 leaf != 0)=true:=by rw[bne_iff_ne];exact S
 generalize t.spotE total 0 leaf=ev at*;clear S;unfold TreeV.val at*;go_enter Tryz.func59,Tryz.ntmps59
 go_upto_region 1 with(fail)
 refine qm ?_;intro o D;have U:o.heap[q]? =some (.cells t.c 26 (0,0)):=by rw[D];exact(Bh _ _ _ (by simp;omega)).trans (qe _ _ I.symm)
 have G:o.heap[q+1]? =some (.cells #[.int .u64 total,.int .u64 leaf,u] 55 (0,0)):=by rw[D];exact qe _ _ (by simp;omega)
 have J:Below q w o:=by rw[D,<-I];exact(Br.alloc Nl _).alloc (by simp) _
 have aa:q+1<o.heap.size:=(Ai G).1;have k0:o.cell? ⟨q+1,0,none⟩=some (.int .u64 total):=qd G 0;have k1:o.cell? ⟨q+1,1,none⟩=some (.int .u64 leaf):=qd G 1;clear D;go_wp2_with (refine L26 q rfl U ?_)
 refine(Y.out o).mono ?_;rintro e w2 ⟨rfl,O⟩;have V:=hid (J.trans (O.mono (by omega)));clear O J;go_wp2_with fail
 go_ret2
 exact⟨rfl,by rw[I];exact V.out⟩
theorem qgb (t:TreeV)(kz z1 z2 piece:List Int)(total leaf:Nat)(ht:(total:Int)<=18446744073709551615)(bo:(leaf:Int)<=18446744073709551615)(he:t.spotE total 0 leaf=0)(u pv:Value)(ss:List Qd)(w:World)(h:TreeOk t kz z1 z2 w)(hs:StepsAt w u ss)(ho:QX 1048576 ss)(hp:Hold w pv piece)(c6:piece.length<=1048576):
  Calls Tryz.prog 59 #[t.val,.agg #[.int .u64 total,.int .u64 leaf,u],pv] w fun r w'=> ∃v e,r= .returned (.tuple #[v,.int .i64 e])/\Zi t kz z1 z2 total leaf ss piece w.heap.size w' v e/\Below w.heap.size w w':=by
 obtain⟨X,aa⟩:=Ex w.heap.size;have F:=Yq h.l ht he;obtain⟨bF,cc,i1,i2,bT⟩:=YB h.l ht he;obtain⟨m,hm⟩:=Ex ((t.rowsOf total).length - 1);have cL:1<=m:=by have:=F.two;omega
 have cl:m<=255:=by have:=F.most;omega
 have bx:(t.rowsOf total).length=m+1:=by have:=F.two;omega
 have aO:=qf1 t h.l total ht leaf he;rw[hm]at aO;have HW:=hid aO;have bQ:=hid (qhU bF);rw[hm]at bQ;have aW:=hid (fun(k:Nat) (hk:k<=m)=>qbQ h.l ht he (k:=k) (by rw[bx];omega));obtain⟨U,az⟩:=Ex (qu t total leaf 0);have aL:=aW.out 0 (by omega);rw[az]at aL;have a5:=zY h.l he;rw[az]at a5;have cr:(U.frm:Int)<=U.to_/\(U.to_:Int)<=18446744073709551615:=by omega
 obtain⟨b8,cb⟩:=cr;have cI:IntKind.u64.wrap (piece.length:Int)=(piece.length:Int):=u64_wrap_id _ (by omega) (by omega);have cd:IntKind.u64.wrap ((U.to_:Int) - (U.frm:Int))=(U.to_:Int) - (U.frm:Int):=u64_wrap_id _ (by omega) (by omega);obtain⟨bb,bf⟩: ∃bb:Bool,(bb=true↔zd t.i m (chI t total leaf) (afI t total leaf) ss):=by
  by_cases h8:zd t.i m (chI t total leaf) (afI t total leaf) ss
  ·exact⟨true,iff_of_true rfl h8⟩
  ·exact⟨false,iff_of_false (by decide) h8⟩
 have ah: ∀(W:World) (g af:Nat),StepsAt W u ss->g<W.heap.size->(∀j,j<m+1->SpotAll W g (qu t total leaf j) j)->Calls Tryz.prog 101 #[t.val,.agg #[.int .u64 total,.int .u64 leaf,u],.slice (some ⟨g,0,none⟩) (m+1) af] W fun e w'=>e= .returned (.bool bb)/\Below W.heap.size W w':=by
  intro W g af h1 hg ag;refine(qeT t total leaf u ss W h1 ho g af m hg cl cL (fun j=>((qu t total leaf j).at_:Int)) (fun j=>((qu t total leaf j).frm:Int)) (fun j=>((qu t total leaf j).to_:Int)) (chI t total leaf) (afI t total leaf) (fun j hj=>⟨(ag j hj).2.1,(ag j hj).2.2.1,(ag j hj).2.2.2.1⟩) bQ.out).mono ?_;rintro e w' ⟨b,rfl,I,cE⟩
  have:b=bb:=by rw[Bool.eq_iff_iff,I,bf]
  rw[this];exact⟨rfl,cE⟩
 have ca:=hid ah;clear ah;have bX:=hid bf;have aK:Hid (∀(W:World) (v:Value) (e:Int),Zi t kz z1 z2 total leaf ss piece X W v e↔((t.spotE total 0 leaf≠0/\e=t.spotE total 0 leaf/\v= .slice none 0 0)\/(t.spotE total 0 leaf=0/\ ¬((piece.length:Int)=(U.to_:Int) - (U.frm:Int)/\zd t.i m (chI t total leaf) (afI t total leaf) ss)/\e=4/\v= .slice none 0 0)\/(t.spotE total 0 leaf=0/\((piece.length:Int)=(U.to_:Int) - (U.frm:Int)/\zd t.i m (chI t total leaf) (afI t total leaf) ss)/\e=0/\OwnB X W v (t.pathR kz z1 z2 total leaf ss piece m)))):=hid (fun W v e=>by unfold Zi;rw[az,hm]);have HE:=hid he;have cf:=hid h;have HS:=hid hs;have HO:=hid ho;have HP:=hid hp;obtain⟨pa,pc,rfl, -, -⟩:=id hp.slice;obtain⟨ua,uc,UU,VV,rfl,db, -⟩:=id hs;have cu:Hid (t.pathR kz z1 z2 total leaf ss piece 0=t.giveZ kz z1 z2 U piece):=hid (by unfold TreeV.pathR;rw[az]);have cH:=hid aL;have ac:=hid (⟨i1,i2⟩:1<=t.i/\t.i<=64);have cy:=hid bT;have bh:=hid az;have b3:=hid (fun(W:World) (S:SpotV) (ds:List Int) (da:Option Addr) (dc:Nat) (hT:TreeOk t kz z1 z2 W) (hS:SpotOk t total S) (hd:Hold W (.slice da ds.length dc) ds) (cB:ds.length<=1073741824)=>qeR t kz z1 z2 ds total ht S da dc W hT hS hd cB);clear F bF cc i1 i2 bT hm bx aO a5 aL he h hs ho hp az bo bf;unfold TreeV.val at*;go_enter Tryz.func59,Tryz.ntmps59
 go_upto_region 1 with(fail)
 refine qm ?_;intro wA aQ;have a6:wA.heap[X]? =some (.cells t.c 26 (0,0)):=by rw[aQ];exact(Bh _ _ _ (by simp;omega)).trans (qe _ _ aa.symm)
 have aC:wA.heap[X+1]? =some (.cells #[.int .u64 total,.int .u64 leaf,.slice ua ss.length uc] 55 (0,0)):=by rw[aQ];exact qe _ _ (by simp;omega)
 have bS:Below X w wA:=by rw[aQ,<-aa];exact(Br.alloc Nl _).alloc (by simp) _
 have cv:X+1<wA.heap.size:=(Ai aC).1;have k0:wA.cell? ⟨X+1,0,none⟩=some (.int .u64 total):=qd aC 0;have k1:wA.cell? ⟨X+1,1,none⟩=some (.int .u64 leaf):=qd aC 1;clear aQ;go_wp2_with (refine L26 X rfl a6 ?_)
 refine(HW.out wA).mono ?_;rintro e w2 ⟨g,af,rfl,ay,ag,an⟩;clear k0 k1;have aX:=hid (qf a6 an);have bd:=hid (qf aC an);have ap:=hid (bS.trans (an.mono (by omega)));have aV:=hid ag;have cJ:X+1<w2.heap.size:=by have:=an.size;omega
 clear ag an bS a6 aC HW cv;clear wA;have aE:=aV.out 0 (by omega);rw[bh.out]at aE;obtain⟨x0,x1,x2,x3,x4,x5⟩:=aE;simp only[Nat.zero_mul,Nat.zero_add]at x0 x1 x2 x3 x4 x5;go_upto_region 4 with(fail)
 by_cases aj:(piece.length:Int)=(U.to_:Int) - (U.frm:Int)
 case neg=>
  have hq:((piece.length:Int) != (U.to_:Int) - (U.frm:Int))=true:=by rw[bne_iff_ne];exact aj
  have aM:=hid aj;clear aj;go_quiet (fail)
  go_wp2_with fail
  go_ret2
  exact⟨_,_,rfl,by rw[aa];exact(aK.out _ _ _).2 (.inr (.inl ⟨HE.out,fun h=>aM.out h.1,rfl,rfl⟩)),by rw[aa];exact ap.out.trans (below_draws _ _ _)⟩
 have hq:((piece.length:Int) != (U.to_:Int) - (U.frm:Int))=false:=by rw[aj];simp
 have aM:=hid aj;clear aj;refine qdC (n:=20) (fun _ W=>Below w2.heap.size w2 W) 0 [.v 27 (.slice pa piece.length pc),.v 28 (.int .i64 (piece.length:Nat)),.v 29 (.int .u64 (piece.length:Nat)),.v 30 (.slice (some ⟨g,0,none⟩) (m+1) af),.z 31 g 0,.z 32 g 3,.v 33 (.int .u64 (U.to_:Nat)),.v 34 (.slice (some ⟨g,0,none⟩) (m+1) af),.z 35 g 0,.z 36 g 2,.v 37 (.int .u64 (U.frm:Nat)),.v 38 (.int .u64 ((U.to_:Int) - (U.frm:Int))),.v 39 (.bool false),.v 40 (.bool false),.v 41 (.agg t.c),.v 42 (.agg #[.int .u64 total,.int .u64 leaf,.slice ua ss.length uc]),.v 43 (.slice (some ⟨g,0,none⟩) (m+1) af),.v 44 (.bool bb),.v 45 (.bool (!bb)),.v 46 (.bool (!bb))] (by exact trivial) Br.drew (fun f W W' h I=>h.trans (I.mono h.size)) ?_ ?_ ?_
 ·repeat' (with_reducible first|exact qz|refine qx ?_ ?_)
  all_goals try
   refine .inr ?_;intro A x W f J hR hf a7 hx G D K Y;have a2:=J.2 2 (by decide);conv at a2=>rhs;whnf
   have a3:=J.2 3 (by decide);conv at a3=>rhs;whnf
   have a4:=J.2 4 (by decide);conv at a4=>rhs;whnf
   have a8:=J.2 8 (by decide);conv at a8=>rhs;whnf
   have bN:g<W.heap.size:=Nat.lt_of_lt_of_le ay hR.size;have y2:W.cell? ⟨g,2,none⟩=some (.int .u64 (U.frm:Nat)):=(hR.cell (p:=⟨g,2,none⟩) ay).trans x2;have y3:W.cell? ⟨g,3,none⟩=some (.int .u64 (U.to_:Nat)):=(hR.cell (p:=⟨g,3,none⟩) ay).trans x3;simp only[QS,yc]at D;clear G J;go_simp
   exact Y _ _ BR rfl
  try any_goals exact .inl rfl
  all_goals refine .inr ?_
  ·intro A x W f J hR hf a7 hx G D K Y;have a3:=J.2 3 (by decide);conv at a3=>rhs;whnf
   exact wp_load_row 26 _ rfl X a3 _ _ _ _ (qf aX.out hR) Tryz.underlying26 rfl (by kernel_rfl) (Y _ _ BR rfl)
  ·intro A x W f J hR hf a7 hx G D K Y;have a4:=J.2 4 (by decide);conv at a4=>rhs;whnf
   exact wp_load_row 55 _ rfl (X+1) a4 _ _ _ _ (qf bd.out hR) Tryz.underlying55 rfl (by kernel_rfl) (Y _ _ BR rfl)
  ·intro A x W f J hR hf a7 hx G D K Y;have cZ:=gw J G 14 41;have de:=gw J G 15 42;have cY:=gw J G 16 43;clear G J D;go_simp
   refine(ca.out W g af (HS.out.below (aa▸ap.out.trans (hR.mono (by omega)))) (Nat.lt_of_lt_of_le ay hR.size) (fun j hj=>(aV.out j hj).below ay hR)).mono ?_;rintro e w5 ⟨rfl,aB⟩;exact Y _ _ aB rfl
 ·intro A x W J hR hx G K Y;have a2:=J.2 2 (by decide);conv at a2=>rhs;whnf
  clear G J;go_simp
  exact Y _ _ (fun h=>by cases h) hR ⟨.inl rfl,.inr (.inr (fun _ h=>h)),.inr (.inr (fun _ h=>h)),.inr (.inr (fun _ h=>h)),.inr (.inr (fun _ h=>h)),.inr (.inr (fun _ h=>h)),.inr (.inr (fun _ h=>h)),.inr (.inr (fun _ h=>h)),.inr (.inr (fun _ h=>h)),.inr (.inr (fun _ h=>h)),.inr (.inr (fun _ h=>h)),.inr (.inr (fun _ h=>h)),.inr (.inr (fun _ h=>h)),.inr (.inr (fun _ h=>h)),.inr (.inr (fun _ h=>h)),.inr (.inr (fun _ h=>h)),.inr (.inr (fun _ h=>h)),.inr (.inr (fun _ h=>h)),.inr (.inr (fun _ h=>h)),.inr (.inr (fun _ h=>h)),trivial⟩ rfl
 intro x W hR aw;clear aw;refine qw ?_;simp only[QG,Act.put,Ls];have cD:=hR;have bj:=hid (qf aX.out hR);have bc:=hid (qf bd.out hR);have aG:=hid (ap.out.trans (hR.mono (by omega)));have aY:=hid (fun j hj=>(aV.out j hj).below ay hR);have bv:X+1<W.heap.size:=by have:=hR.size;omega
 have al:g<W.heap.size:=by have:=hR.size;omega
 obtain⟨w3,rfl⟩: ∃w3,w3=W:=⟨_,rfl⟩;clear hR cD aX bd ap aV cJ ay x0 x1 x2 x3 x4 x5;clear w2
 cases bb
 case false=>
  go_wp2_with fail
  go_ret2
  exact⟨_,_,rfl,by rw[aa];exact(aK.out _ _ _).2 (.inr (.inl ⟨HE.out,fun h=>absurd (bX.out.2 h.2) (by decide),rfl,rfl⟩)),by rw[aa];exact aG.out⟩
 have aE:=aY.out 0 (by omega);rw[bh.out]at aE;obtain⟨x0,x1,x2,x3,x4,x5⟩:=aE;simp only[Nat.zero_mul,Nat.zero_add]at x0 x1 x2 x3 x4 x5;have d0:w3.cell? ⟨X+1,0,none⟩=some (.int .u64 total):=qd bc.out 0;have bW:=hid (cf.out.below (aa▸aG.out));have cj:=hid (HP.out.below (aa▸aG.out));go_upto_region 6 with(fail)
 refine qE (n:=9) (w0:=w3) (B:=w3.heap.size) [.v 47 (.agg t.c),.z 48 (X+1) 0,.v 49 (.int .u64 total),.v 50 (.slice (some ⟨g,0,none⟩) (m+1) af),.z 51 g 0,.v 52 (.agg #[.int .i64 (U.row:Nat),.int .u64 (U.at_:Nat),.int .u64 (U.frm:Nat),.int .u64 (U.to_:Nat),.bool U.last,.bool U.root]),.v 53 (.slice pa piece.length pc),.p 54 (fun u W=>OwnB w3.heap.size W u (t.giveZ kz z1 z2 U piece)),.p 10 (fun u W=>OwnB w3.heap.size W u (t.giveZ kz z1 z2 U piece))] (by exact⟨(fun _ _ _ h I=>OwnB.kb h (KB.of_below I (Nat.zero_le _))),(fun _ _ _ h I=>OwnB.kb h (KB.of_below I (Nat.zero_le _))),trivial⟩) Br.drew Nl ?_ ?_
 ·repeat' (with_reducible first|exact qz|refine qx ?_ ?_)
  all_goals try
   intro A x W J V ab G D K Y;have a2:=J.2 2 (by decide);conv at a2=>rhs;whnf
   have a3:=J.2 3 (by decide);conv at a3=>rhs;whnf
   have a4:=J.2 4 (by decide);conv at a4=>rhs;whnf
   have a8:=J.2 8 (by decide);conv at a8=>rhs;whnf
   have bN:g<W.heap.size:=Nat.lt_of_lt_of_le al V.size;have ce:X+1<W.heap.size:=Nat.lt_of_lt_of_le bv V.size;have y0:W.cell? ⟨g,0,none⟩=some (.int .i64 (U.row:Nat)):=(V.cell (p:=⟨g,0,none⟩) al).trans x0;have y1:W.cell? ⟨g,1,none⟩=some (.int .u64 (U.at_:Nat)):=(V.cell (p:=⟨g,1,none⟩) al).trans x1;have y2:W.cell? ⟨g,2,none⟩=some (.int .u64 (U.frm:Nat)):=(V.cell (p:=⟨g,2,none⟩) al).trans x2;have y3:W.cell? ⟨g,3,none⟩=some (.int .u64 (U.to_:Nat)):=(V.cell (p:=⟨g,3,none⟩) al).trans x3;have y4:W.cell? ⟨g,4,none⟩=some (.bool U.last):=(V.cell (p:=⟨g,4,none⟩) al).trans x4;have y5:W.cell? ⟨g,5,none⟩=some (.bool U.root):=(V.cell (p:=⟨g,5,none⟩) al).trans x5;have e0:W.cell? ⟨X+1,0,none⟩=some (.int .u64 total):=(V.cell (p:=⟨X+1,0,none⟩) bv).trans d0;simp only[QS,yc]at D;clear G J;go_simp
   exact Y _ _ BR rfl
  ·intro A x W J V ab G D K Y;have a3:=J.2 3 (by decide);conv at a3=>rhs;whnf
   exact wp_load_row 26 _ rfl X a3 _ _ _ _ (qf bj.out V) Tryz.underlying26 rfl (by kernel_rfl) (Y _ _ BR rfl)
  ·intro A x W J V ab G D K Y;have c7:=gv J G 0 47;have c8:=gv J G 2 49;have c0:=gv J G 5 52;have c3:=gv J G 6 53;clear G J D;go_simp
   refine(b3.out W U piece pa pc (bW.out.below V) cH.out (cj.out.below V) (by omega)).mono ?_;rintro e w5 ⟨u,rfl,hu,aB⟩;exact Y _ _ aB (hu.le V.size)
  ·intro A x W J V ab G D K Y;simp only[QS,yc]at D;obtain⟨aI, -⟩:=D;obtain⟨x9,ao⟩:=Ex (A.tmps.getD 54 undef);rw[ao]at aI;have c9:A.tmps[54]?.getD undef=x9:=by rw[<-Lh];exact ao
   clear G J ao;go_simp
   exact Y _ _ BR aI
 intro x W V ab aw;obtain⟨-,aq, -⟩:=aw;change OwnB w3.heap.size W (x 10) (t.giveZ kz z1 z2 U piece)at aq
 refine qw ?_;simp only[QG,Act.put,Ls];have aU:=hid aq;have HW:=hid V;have ci:=HS.out.below (aa▸aG.out);obtain⟨a',c5,UU,VV,bA, -,bp⟩:=ci;simp only[Value.slice.injEq,true_and]at bA;obtain⟨rfl,rfl⟩:=bA;have ah:=bX.out.1 (by first|rfl|trivial);rcases bp with h8|⟨bu,ou,rfl,bR,bK⟩
 ·have:=ah.1;rw[h8]at this;simp at this;omega
 have cg:=hid bK;have bt:=hid ah;have bk:=hid ah.1;clear bK ah aq V ab x0 x1 x2 x3 x4 x5 d0 cI cd hq b8 cb;go_wp2_with fail
 go_loopw [11,10] (fun i v W=> ∃k:Nat,i= .int .i64 ((k:Int)+1)/\k<=m/\OwnB w3.heap.size W v (t.pathR kz z1 z2 total leaf ss piece k)/\Below w3.heap.size w3 W) (fun i _ _=>m+1 - (intOf i).toNat)
 case atStart=>exact⟨0,rfl,Nat.zero_le _,by rw[cu.out];exact aU.out,HW.out⟩
 case round=>
  clear aU HW;obtain⟨k,rfl,hk,hO,I⟩:=hrel;obtain⟨wm,rfl⟩: ∃wm,wm=wr:=⟨_,rfl⟩;have cG:g<wm.heap.size:=by have:=I.size;omega
  by_cases ch:k<m
  case pos=>
   have cS:(k:Int)<(m:Int):=by omega
   have b7:=hid (qf bj.out I);have bg:=hid (qf bc.out I);obtain⟨bZ,bw,b4,bH⟩:=cg.out k (by have:=bk.out;omega);obtain⟨f1,f2,f3⟩:=bt.out.2 k ch;have aD:=HO.out.2 _ (ZL (ss:=ss) (k:=k) (by have:=bk.out;omega));have hU:=(I.cell (p:=⟨bu,ou+k*2,none⟩) bR).trans bZ;have hV:=(I.cell (p:=⟨bu,ou+k*2+1,none⟩) bR).trans bw;have aH:=b4.below I;have aF:=bH.below I;obtain⟨au,ku,VU,eu, -, -⟩:=id aH;obtain⟨av,kv,c4,ev, -, -⟩:=id aF;rw[eu]at hU aH;rw[ev]at hV aF;have a9: ∀d∈(qy ss k).1,d.length=t.i.toNat:=fun d hd=>by have:=f3 d (List.mem_append_left _ hd);have:=ac.out;omega
   have aA: ∀d∈(qy ss k).2,d.length=t.i.toNat:=fun d hd=>by have:=f3 d (List.mem_append_right _ hd);have:=ac.out;omega
   have aJ:=hid (JX (m:=64) (fun d hd=>by have:=a9 d hd;have:=ac.out;omega));have aZ:=hid (JX (m:=64) (fun d hd=>by have:=aA d hd;have:=ac.out;omega));have bG:=hid a9;have bM:=hid aA;have bU:=hid (fun d hd=>(aD.1.2 d hd).2);have bs:=hid (fun d hd=>(aD.2.2 d hd).2);obtain⟨nb,aR⟩:=Ex ((qy ss k).1.length);obtain⟨na,aT⟩:=Ex ((qy ss k).2.length);have cX:nb<=1048576:=by rw[<-aR];exact aD.1.1
   have cR:na<=1048576:=by rw[<-aT];exact aD.2.1
   rw[aR]at hU aH aJ;rw[aT]at hV aF aZ;have aS:=hid aR;have aP:=hid aT;have bL:=hid aH;have bC:=hid aF;obtain⟨O,ag⟩:=Ex (qy ss k);obtain⟨D9,hD⟩:=Ex (t.pathR kz z1 z2 total leaf ss piece k);obtain⟨cp,bV⟩:=zP cy.out kz z1 z2 total leaf ss piece k;rw[hD]at hO bV cp;rw[ag]at aJ aZ bG bM bU bs aS aP bL bC;have br:Hid (t.pathR kz z1 z2 total leaf ss piece (k+1)=t.giveZ kz z1 z2 (qu t total leaf (k+1)) (JL O D9)):=hid (by rw[<-ag,<-hD];rfl);have b6:=hid (show JL O D9=qL O.1 nb++D9++qL O.2 na by unfold JL;rw[aS.out,aP.out]);have cm:=hid ((aY.out (k+1) (by omega)).below al I);have cC:=hid (bW.out.below I);obtain⟨b1,ak⟩:=Ex wm.heap.size;have bl:bu<b1:=by have:=I.size;omega
   have cO:X+1<b1:=by have:=I.size;omega
   obtain⟨va,vc,rfl, -, -⟩:=id hO.hold.slice;have HD:=hid hO;have bJ:=hid I;have cK:=hid hU;have cw:=hid hV;clear hO I bZ bw b4 bH f1 f2 f3 aD hU hV aH aF eu ev a9 aA aR aT ag hD;have b5:Hid (∀(W:World),Below b1 wm W->W.cell? ⟨X+1,2,none⟩=some (.slice (some ⟨bu,ou,none⟩) ss.length uc)/\W.cell? ⟨X+1,0,none⟩=some (.int .u64 total)/\W.cell? ⟨bu,ou+k*2,none⟩=some (.slice au nb ku)/\W.cell? ⟨bu,ou+k*2+1,none⟩=some (.slice av na kv)/\X+1<W.heap.size/\bu<W.heap.size/\b1<=W.heap.size):=hid (fun W I=>⟨qd (qf bg.out (ak▸I)) 2,qd (qf bg.out (ak▸I)) 0,(I.cell (p:=⟨bu,ou+k*2,none⟩) bl).trans cK.out,(I.cell (p:=⟨bu,ou+k*2+1,none⟩) bl).trans cw.out,by have:=I.size;omega,by have:=I.size;omega,by have:=I.size;omega⟩);have cT:(k:Int)<(ss.length:Int):=by have:=bk.out;omega
   go_wp2_with fail
   go_loopw [12,13] (fun o i W=> ∃(j:Nat) (v:Value),i= .int .i64 j/\o=v/\j<=nb/\W.ownsRow b1 5 1 v (qL O.1 j).length ((qL O.1 j).map qp)/\Below b1 wm W) (fun _ i _=>nb - (intOf i).toNat)
   case atStart=>exact⟨0,_,rfl,rfl,Nat.zero_le _,Wo _ _ _ _,Below.refl _ _⟩
   case round=>
    obtain⟨j,v,rfl,rfl,hj,Z,I⟩:=hrel;obtain⟨p2,p0,pu,pv,ps,pb,am⟩:=b5.out _ I;by_cases aN:j<nb
    case pos=>
     have bq:(j:Int)<(nb:Int):=by omega
     obtain⟨-,b',o',x,cx,rfl,cn,bn,bm⟩:=pRowsAt.elem (bL.out.below (ak▸I)) aN;have ax:(Qs O.1 j).length=t.i.toNat:=bG.out _ (yb (by have:=aS.out;omega));have bi:Qs O.1 j≠[]:=fun e=>by rw[e]at ax;have:=ac.out;simp at ax;omega
     have ba:(qL O.1 j).length+(Qs O.1 j).length<=1099511627776:=by
      have:=aJ.out j (by omega)
      have:=ac.out
      omega
     have ai:=hid Z;have HB:=hid I;clear Z I ax;go_wp2_with (at_builtin;refine yE rfl _ _ rfl b1 (qL O.1 j) _ rfl ai.out _ (Qs O.1 j) rfl bm bi ba am ?_;intro v' w' ad ae)
     refine⟨⟨j+1,v',by go_num,rfl,by omega,by rw[qL];exact ad,HB.out.grown ae am (fun k e=>(ai.out.lt k e).1)⟩,by simp[intOf]<;>omega⟩
    obtain rfl:j=nb:=by omega
    have cz:(qL O.1 j).length+D9.length<=1099511627776:=by
     have:=aJ.out j (by omega)
     omega
    have bI:=((HD.out.hold.below (ak▸I)).holds8);have ai:=hid Z;have HB:=hid I;clear Z I;go_upto_region 16 with(at_builtin;refine yE rfl _ _ rfl b1 (qL O.1 j) _ rfl ai.out _ D9 rfl bI bV cz am ?_;intro v' w' ad ae)
    have an:=HB.out.grown ae am (fun k e=>(ai.out.lt k e).1);have bO:=hid ad;have ap:=hid an;clear ai HB ad ae an bI p2 p0 pu pv ps pb am;go_wp2_with fail
    go_loopw [12,14] (fun o i W=> ∃(j2:Nat) (v:Value),i= .int .i64 j2/\o=v/\j2<=na/\W.ownsRow b1 5 1 v (qL O.1 j++D9++qL O.2 j2).length ((qL O.1 j++D9++qL O.2 j2).map qp)/\Below b1 wm W) (fun _ i _=>na - (intOf i).toNat)
    case atStart=>exact⟨0,_,rfl,rfl,Nat.zero_le _,by rw[show qL O.2 0=[] from rfl,List.append_nil];exact bO.out,ap.out⟩
    case round=>
     clear bO ap;obtain⟨j2,v,rfl,rfl,dd,Z,I⟩:=hrel;obtain⟨p2,p0,pu,pv,ps,pb,am⟩:=b5.out _ I;have bP:=aJ.out j (by omega);have aA:=aZ.out j2 (by omega);by_cases aN:j2<na
     case pos=>
      have bq:(j2:Int)<(na:Int):=by omega
      obtain⟨-,b',o',x,cx,rfl,cn,bn,bm⟩:=pRowsAt.elem (bC.out.below (ak▸I)) aN;have ax:(Qs O.2 j2).length=t.i.toNat:=bM.out _ (yb (by have:=aP.out;omega));have bi:Qs O.2 j2≠[]:=fun e=>by rw[e]at ax;have:=ac.out;simp at ax;omega
      have ba:(qL O.1 j++D9++qL O.2 j2).length+(Qs O.2 j2).length<=1099511627776:=by
       have:=ac.out
       rw[List.length_append,List.length_append];omega
      have ai:=hid Z;have HB:=hid I;clear Z I ax bP aA;go_wp2_with (at_builtin;refine yE rfl _ _ rfl b1 (qL O.1 j++D9++qL O.2 j2) _ rfl ai.out _ (Qs O.2 j2) rfl bm bi ba am ?_;intro v' w' ad ae)
      refine⟨⟨j2+1,v',by go_num,rfl,by omega,by rw[show qL O.1 j++D9++qL O.2 (j2+1)=qL O.1 j++D9++qL O.2 j2++Qs O.2 j2 by simp[qL]];exact ad,HB.out.grown ae am (fun k e=>(ai.out.lt k e).1)⟩,by simp[intOf]<;>omega⟩
     obtain rfl:j2=na:=by omega
     obtain⟨xa,xn,xc,rfl⟩:=qr Z;obtain rfl:=yJ Z;have bD: ∀z∈qL O.1 j++D9++qL O.2 j2,0<=z/\z<=255:=by
      have key: ∀(ds:List (List Int)) (h: ∀d∈ds,qap d) (q:Nat),q<=ds.length-> ∀z∈qL ds q,0<=z/\z<=255:=by
       intro ds h q;induction q with
       | zero=>intro _ z hz;cases hz
       | succ q ih=>
        intro hq z hz;rcases List.mem_append.1 hz with h8|h8
        ·exact ih (by omega) z h8
        ·exact h _ (yb (by omega)) z h8
      intro z hz;rcases List.mem_append.1 hz with h8|h8
      ·rcases List.mem_append.1 h8 with h9|h9
       ·exact key _ bU.out _ (by have:=aS.out;omega) z h9
       ·exact HD.out.1 z h9
      ·exact key _ bs.out _ (by have:=aP.out;omega) z h8
     have bE:(qL O.1 j++D9++qL O.2 j2).length<=1073741824:=by rw[List.length_append,List.length_append];omega
     have hh:=Qf Z bD;rw[<-b6.out]at hh bE⊢;have HH:=hid hh;have HB:=hid I;have be:=hid (bJ.out.trans (I.mono (show w3.heap.size<=b1 by have:=bJ.out.size;omega)));have bY:=qf b7.out (ak▸I);have b9:=hid bY;have co:=hid (cC.out.below (ak▸I));have ar:g<wr.heap.size:=by have:=I.size;omega
     obtain⟨x0,x1,x2,x3,x4,x5⟩:=cm.out.below cG (ak▸I);have bz:=aW.out (k+1) (by omega);have cA:=hid bz;have cQ:(k:Int)+1<(m:Int)+1:=by omega
     clear Z I bD hh bP aA bY bz;obtain⟨wz,rfl⟩: ∃wz,wz=wr:=⟨_,rfl⟩;go_upto_region 20 with(fail)
     clear pu pv pb p2;refine qE (n:=10) (w0:=wz) (B:=wz.heap.size) [.v 112 (.agg t.c),.z 113 (X+1) 0,.v 114 (.int .u64 total),.v 115 (.slice (some ⟨g,0,none⟩) (m+1) af),.v 116 (.int .i64 ((k:Int)+1)),.v 117 (.pointer (some ⟨g,(k+1)*6,none⟩)),.v 118 (.agg #[.int .i64 ((qu t total leaf (k+1)).row:Nat),.int .u64 ((qu t total leaf (k+1)).at_:Nat),.int .u64 ((qu t total leaf (k+1)).frm:Nat),.int .u64 ((qu t total leaf (k+1)).to_:Nat),.bool (qu t total leaf (k+1)).last,.bool (qu t total leaf (k+1)).root]),.v 119 (.slice xa (JL O D9).length xc),.p 120 (fun u W=>OwnB wz.heap.size W u (t.giveZ kz z1 z2 (qu t total leaf (k+1)) (JL O D9))),.p 10 (fun u W=>OwnB wz.heap.size W u (t.giveZ kz z1 z2 (qu t total leaf (k+1)) (JL O D9)))] (by exact⟨(fun _ _ _ h I=>OwnB.kb h (KB.of_below I (Nat.zero_le _))),(fun _ _ _ h I=>OwnB.kb h (KB.of_below I (Nat.zero_le _))),trivial⟩) Br.drew Nl ?_ ?_
     ·repeat' (with_reducible first|exact qz|refine qx ?_ ?_)
      all_goals try
       intro A x W J V ab G D K Y;have a3:=J.2 3 (by decide);conv at a3=>rhs;whnf
       have a4:=J.2 4 (by decide);conv at a4=>rhs;whnf
       have a8:=J.2 8 (by decide);conv at a8=>rhs;whnf
       have cM:=J.2 11 (by decide);conv at cM=>rhs;whnf
       have ck:=J.2 12 (by decide);conv at ck=>rhs;whnf
       have bN:g<W.heap.size:=Nat.lt_of_lt_of_le ar V.size;have ce:X+1<W.heap.size:=Nat.lt_of_lt_of_le ps V.size;have y0:=(V.cell (p:=⟨g,(k+1)*6,none⟩) ar).trans x0;have y1:=(V.cell (p:=⟨g,(k+1)*6+1,none⟩) ar).trans x1;have y2:=(V.cell (p:=⟨g,(k+1)*6+2,none⟩) ar).trans x2;have y3:=(V.cell (p:=⟨g,(k+1)*6+3,none⟩) ar).trans x3;have y4:=(V.cell (p:=⟨g,(k+1)*6+4,none⟩) ar).trans x4;have y5:=(V.cell (p:=⟨g,(k+1)*6+5,none⟩) ar).trans x5;have e0:W.cell? ⟨X+1,0,none⟩=some (.int .u64 total):=(V.cell (p:=⟨X+1,0,none⟩) ps).trans p0;simp only[QS,yc]at D;clear G J;go_simp
       exact Y _ _ BR rfl
      ·intro A x W J V ab G D K Y;have a3:=J.2 3 (by decide);conv at a3=>rhs;whnf
       exact wp_load_row 26 _ rfl X a3 _ _ _ _ (qf b9.out V) Tryz.underlying26 rfl (by kernel_rfl) (Y _ _ BR rfl)
      ·intro A x W J V ab G D K Y;have cP:=gv J G 0 112;have cU:=gv J G 2 114;have cV:=gv J G 6 118;have cN:=gv J G 7 119;clear G J D;go_simp
       refine(b3.out W (qu t total leaf (k+1)) (JL O D9) xa xc (co.out.below V) cA.out (HH.out.below V) bE).mono ?_;rintro e w5 ⟨u,rfl,hu,aB⟩;exact Y _ _ aB (hu.le V.size)
      ·intro A x W J V ab G D K Y;simp only[QS,yc]at D;obtain⟨aI, -⟩:=D;obtain⟨x9,ao⟩:=Ex (A.tmps.getD 120 undef);rw[ao]at aI;have cW:A.tmps[120]?.getD undef=x9:=by rw[<-Lh];exact ao
       clear G J ao;go_simp
       exact Y _ _ BR aI
     intro x W V ab aw;obtain⟨-,aq, -⟩:=aw;change OwnB wz.heap.size W (x 10) (t.giveZ kz z1 z2 (qu t total leaf (k+1)) (JL O D9))at aq
     refine qw ?_;simp only[QG,Act.put,Ls];have aU:=hid aq;have cF:=hid (be.out.trans (V.mono (show w3.heap.size<=wz.heap.size by have:=be.out.size;omega)));have cq:w3.heap.size<=wz.heap.size:=be.out.size;clear aq V ab x0 x1 x2 x3 x4 x5;go_wp2_with fail
     exact⟨⟨k+1,by simp,by omega,by rw[br.out];exact aU.out.le cq,cF.out⟩,by simp[intOf]<;>omega⟩
  obtain rfl:k=m:=by omega
  have HX:=hid hO;have ct:=hid (aG.out.trans (I.mono (by omega)));clear hO I;go_wp2_with fail
  go_ret2
  exact⟨_,_,rfl,by rw[aa];exact(aK.out _ _ _).2 (.inr (.inr ⟨HE.out,⟨aM.out,bt.out⟩,rfl,HX.out.le (by omega)⟩)),by rw[aa];exact ct.out⟩
