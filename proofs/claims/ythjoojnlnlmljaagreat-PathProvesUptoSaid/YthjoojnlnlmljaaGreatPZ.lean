/- The reference's path of a leaf: what it tells, and where it lies. No condition. -/
import Derived.Test.YthjoojnlnlmljaaGreatP43
import Derived.Test.YthjoojnlnlmljaaGreatP41
import Derived.Test.YthjoojnlnlmljaaGreatP33
import Derived.Test.YthjoojnlnlmljaaGreatP46
import Derived.ArgAppend
import Derived.Laws.OwnMore
import Derived.Test.YthjoojnlnlmljaaGreatP44
import Derived.Deep.DeepCutAuto
import Derived.Test.YthjoojnlnlmljaaGreatP42
import Derived.Test.YthjoojnlnlmljaaGreatP04
import Derived.Deep.CondSized
import Derived.JoinedCond
set_option linter.all false
set_option maxRecDepth 100000
set_option maxHeartbeats 8000000
namespace Go.Proofs.YthjoojnlnlmljaaGreat
open Go.ChangeShapes Go.WideShapes Go.ChangeAt Go.RowKit Go.Joins Go.Shelf Go.Maps
open Go.Lib (hid)
attribute [local go_sem] Oper.semAt_some
def LstS (B E:Nat)(W:World)(v:Value)(L:List (List Int))(ds:List Value):Prop:=
 W.ownsRow B 24 1 v L.length ds∧ ∀j,j<L.length→OwnB E W (ds.getD j undef) (qK L j)
theorem LstS.keep {B E b:Nat}{W W':World}{v:Value}{L:List (List Int)}{ds:List Value}(h:LstS B E W v L ds)(k:KB b W W')(o: ∀g,v.ownBlock=some g→W'.heap[g]? =W.heap[g]?):LstS B E W' v L ds:=
 ⟨qF h.1 o,fun j q=>(h.2 j q).kb k⟩
theorem LstS.dig {B E:Nat}{W:World}{v:Value}{L:List (List Int)}{ds:List Value}(h:LstS B E W v L ds)(o:E≤B):DigV E W v L ds:=⟨ownsRow_le h.1 o,h.2⟩
theorem LstS.nil (B E:Nat)(W:World):LstS B E W (.slice none 0 0) [] []:=⟨Wo _ _ _ _,fun j o=>by simp at o⟩
theorem LstS.len {B E:Nat}{W:World}{v:Value}{L:List (List Int)}{ds:List Value}(h:LstS B E W v L ds):ds.length=L.length:=by have:=h.1.1;simpa using this
theorem LstS.snoc {B E:Nat}{W W':World}{v v' x:Value}{L:List (List Int)}{z:List Int}{ds:List Value}(h:LstS B E W v L ds)(k:KB B W W')(D:W'.ownsRow B 24 1 v' (L.length+1) (ds++[x]))(r:OwnB E W' x z):LstS B E W' v' (L++[z]) (ds++[x]):=by
 refine⟨by rw[List.length_append,List.length_singleton];exact D,fun j G=>?_⟩;have q:=h.len;unfold qK;rw[qI,qI,q];by_cases o:j<L.length
 ·rw[if_pos o,if_pos o];exact(h.2 j o).kb k
 ·rw[List.length_append,List.length_singleton]at G;rw[if_neg o,if_neg o,if_pos (by omega),if_pos (by omega)];exact r
def One1 (B:Nat)(u:Value)(v:Value)(W:World):Prop:= ∃q,v= .slice (some ⟨q,0,none⟩) 1 1∧B≤q∧W.heap[q]? =some (.cells #[u] 24 (0,0))
theorem One1.below {B:Nat}{u v:Value}{W W':World}(h:One1 B u v W)(D:Below W.heap.size W W'):One1 B u v W':=by
 obtain⟨q,e,r,o⟩:=h;exact⟨q,e,r,qg o D⟩
theorem One1.spare {B:Nat}{u v:Value}{W W':World}{o:Option Nat}(h:One1 B u v W)(G:Spare (fun k=>o≠some k) W W')(D: ∀k,o=some k→k<B):One1 B u v W':=by
 obtain⟨q,e,I,r⟩:=h;exact⟨q,e,I,(G.block q (Ai r).1 (fun J=>by have:=D q J;omega)).trans r⟩
def LstP (B E M:Nat)(v:Value)(L:List (List Int))(u:Value)(W:World):Prop:= ∃ds,LstS B E W u L ds∧(u.ownBlock=v.ownBlock∨ ∀g,u.ownBlock=some g→M≤g)
theorem LstP.below {B E M:Nat}{v u:Value}{L:List (List Int)}{W W':World}(h:LstP B E M v L u W)(q:Below W.heap.size W W'):LstP B E M v L u W':=by
 obtain⟨ds,o,r⟩:=h;exact⟨ds,o.keep (KB.of_below q (Nat.zero_le _)) (fun g D=>q.block g (qm o.1 g D)),r⟩
def PairS (E:Nat)(W:World)(xs:List Value)(a:Nat)(st:Yj):Prop:=(∃ds,DigV E W (xs.getD (a*2) undef) st.1 ds)∧ ∃ds,DigV E W (xs.getD (a*2+1) undef) st.2 ds
theorem PairS.keep {E b a:Nat}{W W':World}{xs:List Value}{D:Yj}(h:PairS E W xs a D)(k:KB b W W')(G: ∀i g,(xs.getD i undef).ownBlock=some g→g<W.heap.size→(∃c,W.heap[g]? =some (.cells c 24 (0,0)))→W'.heap[g]? =W.heap[g]?):PairS E W' xs a D:=by
 obtain⟨⟨d1,r⟩,⟨d2,q⟩⟩:=h;exact⟨⟨d1,r.keep k fun g o=>G _ g o (qm r.1 g o) (Qh r.1 g o)⟩,⟨d2,q.keep k fun g o=>G _ g o (qm q.1 g o) (Qh q.1 g o)⟩⟩
theorem PairS.below {E a:Nat}{W W':World}{xs:List Value}{o:Yj}(h:PairS E W xs a o)(q:Below W.heap.size W W'):PairS E W' xs a o:=
 h.keep (KB.of_below q (Nat.zero_le _)) fun _ g _ r _=>q.block g r
theorem PairS.snoc {E a:Nat}{W:World}{xs:List Value}{u v:Value}{o:Yj}(h:PairS E W xs a o)(q:a*2+1<xs.length):PairS E W (xs++[u]++[v]) a o:=by
 have e: ∀i,i<xs.length→(xs++[u]++[v]).getD i undef=xs.getD i undef:=fun i r=>by rw[qI,if_pos (by simp;omega),qI,if_pos r]
 unfold PairS;rw[e _ (by omega),e _ q];exact h
theorem J1 {B E m:Nat}{w:World}{u:Value}{xs:List Value}{ss:List Yj}(o:ss.length=m)(G:w.ownsRow B 69 2 u m xs)(h: ∀a,a<m→PairS E w xs a (Yf ss a)):StepsAt w u ss:=by
 rcases G.2 with⟨rfl,e⟩|⟨g,I,J,rfl,h1,D,Z,Y,h5,O⟩
 ·exact⟨none,0,fun _=>undef,fun _=>undef,by rw[o,e],fun _=>rfl,.inl (List.eq_nil_of_length_eq_zero (by omega))⟩
 ·refine⟨_,I,fun i=>xs.getD (i*2) undef,fun i=>xs.getD (i*2+1) undef,by rw[o],(fun e=>by cases e),.inr ⟨g,0,rfl,(Ai D).1,fun i r=>?_⟩⟩;rw[o]at r;have hx:=G.1;have q: ∀j,j<m*2→w.cell? ⟨g,0+j,none⟩=some (xs.getD j undef):=fun j X=>by
   rw[qd D (0+j),Nat.zero_add];have e:J.toList[j]? =xs[j]? :=by rw[←O,List.getElem?_take,if_pos (by omega)]
   rw[←Array.getElem?_toList,e,Lg,List.getElem?_eq_getElem (by omega)];rfl
  obtain⟨⟨d1,V⟩,⟨d2,U⟩⟩:=h i r;exact⟨q _ (by omega),by have:=q (i*2+1) (by omega);rw[show 0+(i*2+1)=0+i*2+1 by omega]at this;exact this,qaZ V,qaZ U⟩
theorem qc0 (t:TreeV)(hl:0≤t.l∧t.l≤4294967295)(n o:Nat)(hn:n≤4194304)(Y:t.spotE n 0 o≠0)(va:Option Addr)(vc:Nat)(w:World):
  Calls Tryz.prog 29 #[t.val,.slice va n vc,.int .u64 o] w fun r w'=>r= .returned (.tuple #[YB 0 0 (.slice none 0 0),.int .i64 (t.spotE n 0 o)])∧Below w.heap.size w w':=by
 obtain⟨q,U⟩:=Ex w.heap.size;have Z:=hid (qdH t hl n (by omega) o Y);have hq:(t.spotE n 0 o != 0)=true:=by rw[bne_iff_ne];exact Y
 have ac:IntKind.u64.wrap (n:Int)=(n:Int):=u64_wrap_id _ (by omega) (by omega);generalize t.spotE n 0 o=ev at*;clear Y;unfold TreeV.val YB at*;go_enter Tryz.func29,Tryz.ntmps29
 go_upto_region 1 with(fail)
 refine qn ?_;intro I D;have X:I.heap[q]? =some (.cells #[.int .i64 t.k,.int .i64 t.d,.int .i64 t.f,.int .i64 t.p,.int .u32 t.l,.int .i64 t.i,.slice t.ka t.kl t.kc,.slice t.sa t.sl t.sc,.slice t.pa t.pl t.pc] 26 (0,0)):=by rw[D];exact(Bh _ _ _ (by simp;omega)).trans (qe _ _ U.symm)
 have O:I.heap[q+1]? =some (.cells #[.int .u64 0,.int .u64 0,.slice none 0 0] 55 (0,0)):=by rw[D];exact qe _ _ (by simp;omega)
 have V:Below q w I:=by rw[D,←U];exact(Br.alloc Nl _).alloc (by simp) _
 have ab:q+1<I.heap.size:=(Ai O).1;clear D;go_wp2_with ((with_reducible show wpList _ _ _ (Oper.mk _ (Op.load 26 _) _ _ _ _::_) _ _);refine wpList_load_row rfl 26 _ rfl q rfl _ _ _ _ X Tryz.underlying26 rfl (by kernel_rfl) ?_)
 refine(Z.out I).mono ?_;rintro e w2 ⟨rfl,G⟩;have J:=qg O G;have HB:=hid (V.trans (G.mono (show q≤I.heap.size by omega)));have aa:q+1<w2.heap.size:=by have:=G.size;omega
 obtain⟨cR,fR⟩:=ze J;have HR:=hid J;clear G V X O J Z;go_wp2_with fail
 exact Bp (qA rfl _ _ _ _ _ _ _ rfl (ZC HR.out _ _ _) Tryz.underlying55 rfl (by kernel_rfl)) rfl ⟨rfl,by rw[U];exact ZE HB.out (by omega) _ _ _⟩
theorem qdP (t:TreeV)(kz z1 z2 zs:List Int)(I:Nat)(dr:(I:Int)≤18446744073709551615)(v:Value)(w:World)(h:TreeOk t kz z1 z2 w)(hv:Hold w v zs)(hn:zs.length≤4194304)(he:t.spotE zs.length 0 I=0):
  Calls Tryz.prog 29 #[t.val,v,.int .u64 I] w fun r w'=> ∃u xs,r= .returned (.tuple #[YB zs.length I u,.int .i64 0])∧w'.ownsRow w.heap.size 69 2 u ((t.rowsOf zs.length).length - 1) xs∧(∀a,a<(t.rowsOf zs.length).length - 1→PairS w.heap.size w' xs a (Yf (t.stepsZ kz z1 z2 zs I ((t.rowsOf zs.length).length - 1)) a))∧Below w.heap.size w w':=by
 obtain⟨U,ax⟩:=Ex w.heap.size;obtain⟨ib,cf,bT,b4,cj⟩:=info_parts yH;obtain⟨iS,cO,dc,dm,c8⟩:=info_parts qcE;have ht:(zs.length:Int)≤18446744073709551615:=by omega
 have bo:=YS h.v hn;have F:=YN h.l ht he;obtain⟨cr,dp,i1,i2,b7⟩:=qa7 h.l ht he;have hR:=qM bo;have hL:=Qt h.v h.l kz z1 z2 zs;have ci:=yc bo kz z1 z2 (YP h.v h.l kz z1 z2 zs) hL.2.2;obtain⟨m,hm⟩:=Ex ((t.rowsOf zs.length).length - 1);have dZ:1≤m:=by have:=F.two;omega
 have dR:m≤255:=by have:=F.most;omega
 have df:(t.rowsOf zs.length).length=m+1:=by have:=F.two;omega
 have aT:=qeU t h.l zs.length ht I he;rw[hm]at aT;have HW:=hid aT;have aI:=hid (fun(W:World) (V:Below U w W)=>qeT t kz z1 z2 zs v W h.l (h.k.below (ax▸V)) (h.s.below (ax▸V)) (h.p.below (ax▸V)) (hv.below (ax▸V)) hn);have bI: ∀k,k<m→ ∃f c d:Nat,(qB t zs.length I (k+1)).frm=f∧(qB t zs.length I (k+1)).to_=d∧(qB t zs.length I k).at_=f+c∧f+c<d∧d≤(t.lvlZ kz z1 z2 (t.leafZ kz z1 z2 zs) k).length∧(t.lvlZ kz z1 z2 (t.leafZ kz z1 z2 zs) k).length≤4194305∧(t.rowsZ kz z1 z2 zs).getD k []=t.lvlZ kz z1 z2 (t.leafZ kz z1 z2 zs) k∧k<(t.rowsZ kz z1 z2 zs).length∧
   t.stepZ kz z1 z2 zs I k=(((t.lvlZ kz z1 z2 (t.leafZ kz z1 z2 zs) k).drop f).take c,((t.lvlZ kz z1 z2 (t.leafZ kz z1 z2 zs) k).drop (f+c+1)).take (d - (f+c) - 1)):=fun k hk=>by
  have hK:=cr k (by omega);have dn:=Yy (l:=t.ln) (by have:=(qo h.v).2.2.2.2.2.2.2.2.1;have:=h.l;unfold TreeV.ln;omega) hR (k:=k+1) (by omega) (by omega) (Yv hR (qaa h.l he).2.2.2 (k+1) (by omega));have dk:=ci k (by omega);have hF:=Qk h.v kz z1 z2 hL.1 hL.2.2 k;have e1:=hK.le;have e2:=hK.lt;have aK:=jr h.v kz z1 z2 zs (k:=k) (by omega);refine⟨_,chN t zs.length I k,_,rfl,rfl,?_,?_,?_,by have:=hL.2.1;omega,aK.1,aK.2,?_⟩
  ·rw[show(qB t zs.length I k).at_=Qp t.fn (t.rowsOf zs.length) I k from(Zr _ _ _ _ _ _).2.1];unfold chN;omega
  ·unfold chN;omega
  ·rw[dk];exact dn
  ·unfold TreeV.stepZ chN;rw[show(qB t zs.length I (k+1)).frm+(Qp t.fn (t.rowsOf zs.length) I k - (qB t zs.length I (k+1)).frm)=Qp t.fn (t.rowsOf zs.length) I k by omega]
 have cA:=hid bI;have c7:=hid (fun a (ha:a<m)=>yM t kz z1 z2 zs I ha);have dD:=hid (Q1 t kz z1 z2 zs I m);have dW:IntKind.u64.wrap (zs.length:Int)=(zs.length:Int):=u64_wrap_id _ (by omega) (by omega);obtain⟨va,vc,rfl, -, -⟩:=id hv.slice;rw[b7]at aI;rw[hm];clear F cr dp i1 i2 b7 hm df aT bI hR hL ci bo he h hv hn;generalize t.stepsZ kz z1 z2 zs I m=SS at*;unfold TreeV.val YB at*;go_enter Tryz.func29,Tryz.ntmps29
 go_upto_region 1 with(fail)
 refine qn ?_;intro wA aZ;have bC:wA.heap[U]? =some (.cells #[.int .i64 t.k,.int .i64 t.d,.int .i64 t.f,.int .i64 t.p,.int .u32 t.l,.int .i64 t.i,.slice t.ka t.kl t.kc,.slice t.sa t.sl t.sc,.slice t.pa t.pl t.pc] 26 (0,0)):=by rw[aZ];exact(Bh _ _ _ (by simp;omega)).trans (qe _ _ ax.symm)
 have bN:wA.heap[U+1]? =some (.cells #[.int .u64 0,.int .u64 0,.slice none 0 0] 55 (0,0)):=by rw[aZ];exact qe _ _ (by simp;omega)
 have b9:Below U w wA:=by rw[aZ,←ax];exact(Br.alloc Nl _).alloc (by simp) _
 have cV:U+1<wA.heap.size:=(Ai bN).1;clear aZ;go_wp2_with ((with_reducible show wpList _ _ _ (Oper.mk _ (Op.load 26 _) _ _ _ _::_) _ _);refine wpList_load_row rfl 26 _ rfl U rfl _ _ _ _ bC Tryz.underlying26 rfl (by kernel_rfl) ?_)
 refine(HW.out wA).mono ?_;rintro e w2 ⟨g,dI,rfl,hg,ca,aO⟩;have bd:=qg bC aO;have bH:=hid (qg bN aO);have bt:=hid (b9.trans (aO.mono (show U≤wA.heap.size by omega)));have br:=hid ca;have di:U+1<w2.heap.size:=by have:=aO.size;omega
 clear ca aO b9 bC bN HW cV;clear wA;go_wp2_with ((with_reducible show wpList _ _ _ (Oper.mk _ (Op.load 26 _) _ _ _ _::_) _ _);refine wpList_load_row rfl 26 _ rfl U rfl _ _ _ _ bd Tryz.underlying26 rfl (by kernel_rfl) ?_)
 refine(aI.out w2 bt.out).mono ?_;rintro e w5 ⟨ru,cH,rfl,bb,aE⟩;have cv:=hid (qg bH.out aE);have bO:=hid (bt.out.trans (aE.mono (show U≤w2.heap.size by omega)));have bz:=hid (fun j hj=>(br.out j hj).below hg aE);have cm:=hid (bb.le (show U≤w2.heap.size by omega));obtain⟨ra,rc,rfl,dN⟩:=bb.formP;obtain⟨bp,a6⟩:=Ex w5.heap.size;have dT:U+1<bp:=by have:=aE.size;omega
 have dJ:g<bp:=by have:=aE.size;omega
 clear bb aE br bH bt bd di hg aI;clear w2;go_upto_region 6 with(fail)
 refine qn ?_;intro wB bw;have cq:wB.heap[bp]? =some (.cells #[.int .u64 zs.length,.int .u64 I,.slice none 0 0] 55 (0,0)):=by rw[bw];exact qe _ _ a6.symm
 have cg:Below bp w5 wB:=by rw[bw,←a6];exact Br.alloc Nl _
 have aW:=hid cq;have cp:=hid cg;clear bw cq cg;go_wp2_with fail
 go_loopw [13] (fun i wr=> ∃(k:Nat) (u:Value) (xs:List Value),i= .int .i64 ((k:Int)+1)∧k≤m∧wr.heap[bp]? =some (.cells #[.int .u64 zs.length,.int .u64 I,u] 55 (0,0))∧wr.ownsRow bp 69 2 u k xs∧(∀a,a<k→PairS U wr xs a (Yf SS a))∧Below bp w5 wr) (fun i _=>m+1 - (intOf i).toNat)
 case atStart=>exact⟨0,_,[],rfl,Nat.zero_le _,aW.out,Wo _ _ _ _,(fun a ha=>by omega),cp.out⟩
 case round=>
  clear aW cp;obtain⟨k,u,xs,rfl,hk,aX,aD,a4,V⟩:=hrel;have dM:bp≤wr.heap.size:=by have:=V.size;omega
  have du:bp<wr.heap.size:=(Ai aX).1;obtain⟨ua,uc,rfl⟩:=ym aD;by_cases au:k<m
  case pos=>
   have dz:(k:Int)<(m:Int):=by omega
   obtain⟨f,c,d,hf,hd,cn,cG,cb,c6,aK,a7,bq⟩:=cA.out k au;obtain⟨-, -,q2,q3, -, -⟩:=bz.out (k+1) (by omega);obtain⟨-,q1, -, -, -, -⟩:=bz.out k (by omega);rw[hf]at q2;rw[hd]at q3;rw[cn]at q1;have aS:=cm.out.2.1 k a7;rw[aK]at aS;obtain⟨gR,cR,e1,cZ,bn⟩:=cm.out.getP a7;simp only[Value.slice.injEq,true_and]at e1;obtain⟨rfl,rfl⟩:=e1;rw[←c7.out k au]at bq;generalize t.lvlZ kz z1 z2 (t.leafZ kz z1 z2 zs) k=R at*;obtain⟨X,hX⟩:=Ex (cH.getD k undef);rw[hX]at aS bn;clear hX;obtain⟨es,bQ,b5⟩:=aS;obtain⟨gX,cX,rfl, -,cN,co⟩:=z7 bQ (by omega);have cl:es.length=R.length:=by have:=bQ.1;simpa using this
   have aY: ∀o,wr.cell? ⟨g,o,none⟩=w5.cell? ⟨g,o,none⟩:=fun o=>V.cell (p:=⟨g,o,none⟩) (by show g<bp;omega)
   have c1:=(aY _).trans q1;have c2:=(aY _).trans q2;have c3:=(aY _).trans q3;have cC:g<wr.heap.size:=by omega
   have cY:=hid cl;have cJ:=hid b5;have db:=hid co;have c9:=hid bq;have aj:=hid aD;have bm:=hid a4;have HB:=hid V;have aW:=hid aX;have dH:(d:Int)≤4194305:=by omega
   have dg:f≤d:=by omega
   have az:(k:Int)<(t.rowsZ kz z1 z2 zs).length:=by omega
   have dG:(R.length:Int)≤4194305:=by omega
   have aQ:=hid cb;have cM:=hid cG;clear q1 q2 q3 aY hf hd cn aK bq bQ b5 co cl aD a4 V aX a7 c6 cb;obtain⟨D,aF⟩:=Ex wr.heap.size;go_upto_region 10 with(fail)
   refine qn ?_;intro Y hY;have bF:Y.heap[D]? =some (.cells #[.slice none 0 0,.slice none 0 0] 69 (0,0)):=by rw[hY];exact qe _ _ aF.symm
   have an:Below D wr Y:=by rw[hY,←aF];exact Br.alloc Nl _
   have dO:D<Y.heap.size:=(Ai bF).1;have t2:=(an.cell (p:=⟨g,(k+1)*6+2,none⟩) (by show g<D;omega)).trans c2;have b8:=hid bF;have bV:=hid an;have cS:=hid (show Y.heap.size=D+1 by rw[hY];simp[aF]);have dd:=hid (qg aW.out (aF▸an));have dl:=hid (qF aj.out (fun q G=>an.block q (by have:=qm aj.out q G;omega)));have cL:=hid (show ∀q,(Value.slice ua k uc).ownBlock=some q→q<D from fun q G=>by have:=qm aj.out q G;omega);have dh:=hid (fun a ha=>(bm.out a ha).below (aF▸an));have cz:=hid (HB.out.trans (an.mono (by omega)));have c0:=hid aj.out.1;have dF:g<Y.heap.size:=by omega
   have y1:=(an.cell (p:=⟨g,k*6+1,none⟩) (by show g<D;omega)).trans c1;have y3:=(an.cell (p:=⟨g,(k+1)*6+3,none⟩) (by show g<D;omega)).trans c3;have yR:=(an.cell (p:=⟨gR,k,none⟩) (by show gR<D;omega)).trans ((HB.out.cell (p:=⟨gR,k,none⟩) (by show gR<bp;omega)).trans bn);have Y1:=hid y1;have Y3:=hid y3;have YR:=hid yR;have cB:g<D∧gR<D∧gX<D∧gX<bp∧bp<D:=by refine⟨?_,?_,?_,?_,?_⟩<;>omega
   obtain⟨a3,cu,bx,ct,cx⟩:=cB;clear hY bF an y1 y3 yR c1 c2 c3 bn cZ cN cC;go_wp2_with fail
   go_loopw [15] (fun i W=> ∃(p:Nat) (bv av:Value) (D1 D2:List Value),i= .int .u64 (p:Nat)∧f≤p∧p≤d∧W.heap[D]? =some (.cells #[bv,av] 69 (0,0))∧LstS D U W bv ((R.drop f).take (min (p - f) c)) D1∧LstS D U W av ((R.drop (f+c+1)).take (p - f - c - 1)) D2∧(∀q,bv.ownBlock=some q→av.ownBlock≠some q)∧KB D Y W) (fun i _=>d - (intOf i).toNat)
   case atStart=>exact⟨f,_,_,[],[],rfl,Nat.le_refl _,dg,b8.out,by rw[Nat.sub_self,Nat.zero_min,List.take_zero];exact LstS.nil _ _ _,by rw[Nat.sub_self,Nat.zero_sub,Nat.zero_sub,List.take_zero];exact LstS.nil _ _ _,(fun q G=>by cases G),KB.refl _ _⟩
   case round=>
    obtain⟨p,bv,av,D1,D2,rfl,dY,dV,aG,bR,a9,bl,ar⟩:=hrel;obtain⟨ab,ae,ag,rfl⟩:=Qg bR.1;obtain⟨ac,af,ad,rfl⟩:=Qg a9.1;have a5:D<wr.heap.size:=(Ai aG).1;have aP: ∀(b o:Nat),b<D→wr.cell? ⟨b,o,none⟩=Y.cell? ⟨b,o,none⟩:=fun b o V=>ar.below.cell (p:=⟨b,o,none⟩) V
    have d0:=(aP g (k*6+1) a3).trans Y1.out;have z3:=(aP g ((k+1)*6+3) a3).trans Y3.out;have zR:=(aP gR k cu).trans YR.out;have q0:wr.cell? ⟨D,0,none⟩=some (.slice ab ae ag):=qd aG 0;have q1:wr.cell? ⟨D,1,none⟩=some (.slice ac af ad):=qd aG 1;have dS:g<wr.heap.size:=by omega
    have dE:(p:Int)≤4194305:=by omega
    have aA:=hid aG;have ak:=hid bR;have ai:=hid a9;have aC:=hid bl;have aw:=hid ar;have da:=hid aP;clear aG bR a9 bl ar aP;by_cases dC:p<d
    case pos=>
     have dA:(p:Int)<(d:Int):=by omega
     obtain⟨x,hx⟩:=Ex (es.getD p undef);have bg:OwnB U w5 x (qK R p):=by rw[←hx];exact cJ.out p (by have:=aQ.out;omega)
     have ck:w5.cell? ⟨gX,p,none⟩=some x:=db.out p x (by rw[←hx,Lg,List.getElem?_eq_getElem (by have:=cY.out;have:=aQ.out;omega)];rfl);have ch:f+min (p - f) c=p→(R.drop f).take (p+1 - f)=(R.drop f).take (p - f)++[qK R p]:=fun _=>by
      have:=jv (L:=R) (f:=f) (j:=p - f) (by have:=aQ.out;omega)
      rw[show p - f+1=p+1 - f by omega,show f+(p - f)=p by omega]at this;exact this
     have bL:f+c<p→(R.drop (f+c+1)).take (p - f - c)=(R.drop (f+c+1)).take (p - f - c - 1)++[qK R p]:=fun hc=>by
      have:=jv (L:=R) (f:=f+c+1) (j:=p - f - c - 1) (by have:=aQ.out;omega)
      rw[show p - f - c - 1+1=p - f - c by omega,show f+c+1+(p - f - c - 1)=p by omega]at this;exact this
     have cE:((R.drop f).take (min (p - f) c)).length≤8388608∧((R.drop (f+c+1)).take (p - f - c - 1)).length≤8388608:=by simp only[List.length_take];omega
     obtain⟨dq,dt⟩:=cE;generalize qK R p=z at*;obtain⟨xa,xc,rfl, -, -⟩:=id bg.hold.slice;have zX:=(da.out gX p bx).trans ((bV.out.cell (p:=⟨gX,p,none⟩) bx).trans ((HB.out.cell (p:=⟨gX,p,none⟩) ct).trans ck));have bX:OwnB U wr (.slice xa z.length xc) z:=((bg.kb (KB.of_below (a6▸HB.out) (Nat.zero_le _))).kb (KB.of_below (aF▸bV.out) (Nat.zero_le _))).kb aw.out;have ZX:=hid zX;have ZR:=hid zR;have bU:=hid bX;have c5:=hid ch;have cD:=hid bL;clear hx bg ck ch bL bX zX zR;have dX:p<R.length:=by have:=aQ.out;omega
     have dv:(p:Int)<(R.length:Int):=by omega
     have dP:IntKind.i64.wrap ((k:Int)+1 - 1)=(k:Int):=by rw[IntKind.wrap_i64]<;>omega
     have dw:IntKind.i64.wrap (k:Int)=(k:Int):=by rw[IntKind.wrap_i64]<;>omega
     have dU:IntKind.i64.wrap (p:Int)=(p:Int):=by rw[IntKind.wrap_i64]<;>omega
     by_cases cU:p<f+c
     case pos=>
      have dQ:(p:Int)<((f+c:Nat):Int):=by omega
      have dK:(f+c<p)=False:=eq_false (by omega);go_upto_region 14 with(fail)
      refine Jt (n:=13) (fun f W=>(f=false→Below wr.heap.size wr W)∧(f=true→Spare (fun k=>(Value.slice ab ae ag).ownBlock≠some k) wr W∧KB D wr W)) 12 [.v 69 (.pointer (some ⟨D,0,none⟩)),.v 70 (.slice ab ae ag),.v 71 (.slice (some ⟨gR,0,none⟩) (t.rowsZ kz z1 z2 zs).length rc),.v 72 (.int .i64 ((k:Int)+1)),.v 73 (.int .i64 (k:Int)),.v 74 (.pointer (some ⟨gR,k,none⟩)),.v 75 (.slice (some ⟨gX,0,none⟩) R.length cX),.v 76 (.int .u64 (p:Nat)),.v 77 (.int .i64 (p:Nat)),.v 78 (.pointer (some ⟨gX,p,none⟩)),.v 79 (.slice xa z.length xc),.p 80 (One1 wr.heap.size (.slice xa z.length xc)),.p 81 (LstP D U wr.heap.size (.slice ab ae ag) ((R.drop f).take (min (p - f) c)++[z]))] (by exact⟨(fun _ _ V _ h=>One1.below h V),(fun _ _ V _ h=>LstP.below h V),trivial⟩) ⟨fun _=>Br.drew,fun h=>(by cases h)⟩ (fun f W W' h V=>⟨fun e=>(h.1 e).trans (V.mono (h.1 e).size),fun e=>⟨(h.2 e).1.trans (Spare.of_below _ V) (fun _ _ h=>h),(h.2 e).2.trans (KB.of_below V (by have:=(h.2 e).1.size;omega))⟩⟩) ?_ ?_ ?_
      ·repeat' (with_reducible first|exact qz|refine qx ?_ ?_)
       all_goals try
        refine .inr ?_;intro A x W f' hA hR hf bk hx J DD K hK;have O:=hR.1 (hf (by kernel_rfl));have a8:=hA.2 8 (by decide);conv at a8=>rhs;whnf
        have bf:=hA.2 10 (by decide);conv at bf=>rhs;whnf
        have ba:=hA.2 13 (by decide);conv at ba=>rhs;whnf
        have bj:=hA.2 14 (by decide);conv at bj=>rhs;whnf
        have bc:=hA.2 15 (by decide);conv at bc=>rhs;whnf
        have y0:W.cell? ⟨D,0,none⟩=some (.slice ab ae ag):=(O.cell (p:=⟨D,0,none⟩) a5).trans q0;have y1:W.cell? ⟨gR,k,none⟩=some (.slice (some ⟨gX,0,none⟩) R.length cX):=(O.cell (p:=⟨gR,k,none⟩) (by show gR<wr.heap.size;omega)).trans ZR.out;have y2:W.cell? ⟨gX,p,none⟩=some (.slice xa z.length xc):=(O.cell (p:=⟨gX,p,none⟩) (by show gX<wr.heap.size;omega)).trans ZX.out;have y3:D<W.heap.size:=by have:=O.size;omega
        have y4:gR<W.heap.size:=by omega
        have y5:gX<W.heap.size:=by omega
        simp only[QW,Q8]at DD;clear J hA;go_simp
        exact hK _ _ BR rfl
       any_goals exact .inl rfl
       all_goals refine .inr ?_
       intro A x W f' hA hR hf bk hx J DD K hK;have O:=hR.1 (hf (by kernel_rfl));have g1:=gw hA J 10 79;clear J hA DD;have dj:A.tmps[79]?.getD undef= .slice xa z.length xc:=by rw[←Lh];exact g1
       go_simp
       exact hK _ _ (Br.alloc Nl _) ⟨W.heap.size,rfl,O.size,Wn W _⟩
      ·intro A x W hA hR hx J K hK;have g1:=gw hA J 1 70;have g2:One1 wr.heap.size (.slice xa z.length xc) (x 80) W:=J ⟨11,.data⟩ (by simp) rfl;have a2:A.tmps.getD 80 undef=x 80:=hA.1 80 (by decide);clear J hA;have O:=hR.1 rfl;obtain⟨qb,eq,cW,bM⟩:=id g2;have aR:=ak.out.keep (KB.of_below O (Nat.zero_le _)) (fun g hg=>O.block g (qm ak.out.1 g hg));have ho:=aR.1;refine yx _ _ 67 rfl D 24 ib (.slice none 0 0) 24 Tryz.underlying67 cf bT b4 cj rfl (.slice ab ae ag) ((R.drop f).take (min (p - f) c)).length D1 g1 ho (.slice (some ⟨qb,0,none⟩) 1 1) 1 [.slice xa z.length xc] (a2.trans eq) ⟨rfl,by simp[Value.oneCell'],.inr ⟨⟨qb,0,none⟩,1,rfl,zJ bM⟩⟩ (by unfold maxLen;omega) (by omega) (by have:=O.size;omega) ?_;intro v' w' k1 k2 k3;obtain⟨k4,k5⟩:=qbE ho (by decide) k2 (by have:=O.size;omega);have k6:LstS D U w' v' ((R.drop f).take (min (p - f) c)++[z]) (D1++[.slice xa z.length xc]):=aR.snoc k4 k1 ((bU.out.kb (KB.of_below O (Nat.zero_le _))).kb k4);refine hK v' w' (fun h=>by cases h) ⟨fun h=>(by cases h),fun _=>⟨(Spare.of_below _ O).trans k5 (fun _ _ h=>h),(KB.of_below O (by omega)).trans k4⟩⟩ ⟨.inr (.inr (fun _ h=>h)),.inr (.inr (fun _ h=>h)),.inr (.inr (fun _ h=>h)),.inr (.inr (fun _ h=>h)),.inr (.inr (fun _ h=>h)),.inr (.inr (fun _ h=>h)),.inr (.inr (fun _ h=>h)),.inr (.inr (fun _ h=>h)),.inr (.inr (fun _ h=>h)),.inr (.inr (fun _ h=>h)),.inr (.inr (fun _ h=>h)),.inr (.inr (fun _ h=>One1.spare h k5 (fun k e=>qm ak.out.1 k e))),.inl rfl,trivial⟩ ⟨_,k6,?_⟩;rcases k3 with k3|k3
       ·exact .inl k3
       ·refine .inr fun g hg=>?_
        rw[k3]at hg;cases hg;exact O.size
      intro x W hR aV;obtain⟨-,aJ, -⟩:=aV;change LstP D U wr.heap.size (.slice ab ae ag) ((R.drop f).take (min (p - f) c)++[z]) (x 81) W at aJ
      obtain⟨DN,hN,ao⟩:=aJ;obtain⟨am,ar⟩:=hR.2 rfl;obtain⟨na,nn,nc,eN⟩:=Qg hN.1;rw[eN]at hN ao;have al:W.heap[D]? =some (.cells #[.slice ab ae ag,.slice ac af ad] 69 (0,0)):=(am.block D a5 (fun e=>QQ ak.out.1 aA.out (by decide) D e rfl)).trans aA.out;obtain⟨-,fz⟩:=ze al;have ce:D<W.heap.size:=(Ai al).1;have n0:W.cell? ⟨D,0,none⟩=some (.slice ab ae ag):=qd al 0;have HN:=hid hN;have aU:=hid ao;have aM:=hid am;have bD:=hid ar;have aq:=hid al;refine qp ?_;simp only[QF,Act.put,Ls,eN];generalize x 80=xB;clear hN ao am ar al hR eN;go_wp2_with fail
      refine qp ?_;go_wp2_with fail
      refine qw ?_;have aa:=(But.refl D W).set 0 (.slice na nn nc);have ah:KB D wr (W.setCell ⟨D,0,none⟩ (.slice na nn nc)):=bD.out.trans (KB.of_but aa (by omega) Nl aq.out (by decide));have ap:=ai.out.keep (b:=D) ah (fun q G=>(aa.block q (by have:=qm ai.out.1 q G;have:=aM.out.size;omega) (fun e=>QQ ai.out.1 aA.out (by decide) q G e)).trans (aM.out.block q (qm ai.out.1 q G) (fun e=>aC.out q e G)));have ay:=HN.out.keep (b:=D) (KB.of_but aa (by omega) Nl aq.out (by decide)) (fun q G=>aa.block q (qm HN.out.1 q G) (fun e=>QQ HN.out.1 aq.out (by decide) q G e));have aN:(W.setCell ⟨D,0,none⟩ (.slice na nn nc)).heap[D]? =some (.cells #[.slice na nn nc,.slice ac af ad] 69 (0,0)):=block_setCell aq.out _;clear aa;generalize W.setCell ⟨D,0,none⟩ (.slice na nn nc)=Z at*;have az:=aw.out.trans ah;have de:=(az.below.cell (p:=⟨g,k*6+1,none⟩) a3).trans Y1.out;have cK:g<Z.heap.size:=by have:=ah.size;omega
      have be:=hid az;have bG:=hid ap;have bP:=hid ay;have bJ:=hid aN;clear ah ap ay aN az;go_wp2_with fail
      have ap:=bG.out;have ay:=bP.out;refine⟨⟨p+1,_,_,DN,D2,by go_num,by omega,by omega,bJ.out,?_,?_,?_,be.out⟩,by simp[intOf];omega⟩
      ·rw[show min (p+1 - f) c=p+1 - f by omega,c5.out (by omega)];have G:=ay;rw[show min (p - f) c=p - f by omega]at G;exact G
      ·rw[show p+1 - f - c - 1=p - f - c - 1 by omega];exact ap
      ·intro q G;rcases aU.out with h|h
       ·rw[h]at G;exact aC.out q G
       ·exact fun e=>by have:=h q G;have:=qm ai.out.1 q e;omega
     have dx:(p<f+c)=False:=eq_false cU;by_cases bY:f+c<p
     case pos=>
      go_upto_region 16 with(fail)
      refine Jt (n:=13) (fun f W=>(f=false→Below wr.heap.size wr W)∧(f=true→Spare (fun k=>(Value.slice ac af ad).ownBlock≠some k) wr W∧KB D wr W)) 12 [.v 91 (.pointer (some ⟨D,1,none⟩)),.v 92 (.slice ac af ad),.v 93 (.slice (some ⟨gR,0,none⟩) (t.rowsZ kz z1 z2 zs).length rc),.v 94 (.int .i64 ((k:Int)+1)),.v 95 (.int .i64 (k:Int)),.v 96 (.pointer (some ⟨gR,k,none⟩)),.v 97 (.slice (some ⟨gX,0,none⟩) R.length cX),.v 98 (.int .u64 (p:Nat)),.v 99 (.int .i64 (p:Nat)),.v 100 (.pointer (some ⟨gX,p,none⟩)),.v 101 (.slice xa z.length xc),.p 102 (One1 wr.heap.size (.slice xa z.length xc)),.p 103 (LstP D U wr.heap.size (.slice ac af ad) ((R.drop (f+c+1)).take (p - f - c - 1)++[z]))] (by exact⟨(fun _ _ V _ h=>One1.below h V),(fun _ _ V _ h=>LstP.below h V),trivial⟩) ⟨fun _=>Br.drew,fun h=>(by cases h)⟩ (fun f W W' h V=>⟨fun e=>(h.1 e).trans (V.mono (h.1 e).size),fun e=>⟨(h.2 e).1.trans (Spare.of_below _ V) (fun _ _ h=>h),(h.2 e).2.trans (KB.of_below V (by have:=(h.2 e).1.size;omega))⟩⟩) ?_ ?_ ?_
      ·repeat' (with_reducible first|exact qz|refine qx ?_ ?_)
       all_goals try
        refine .inr ?_;intro A x W f' hA hR hf bk hx J DD K hK;have O:=hR.1 (hf (by kernel_rfl));have a8:=hA.2 8 (by decide);conv at a8=>rhs;whnf
        have bf:=hA.2 10 (by decide);conv at bf=>rhs;whnf
        have ba:=hA.2 13 (by decide);conv at ba=>rhs;whnf
        have bj:=hA.2 14 (by decide);conv at bj=>rhs;whnf
        have bc:=hA.2 15 (by decide);conv at bc=>rhs;whnf
        have y0:W.cell? ⟨D,1,none⟩=some (.slice ac af ad):=(O.cell (p:=⟨D,1,none⟩) a5).trans q1;have y1:W.cell? ⟨gR,k,none⟩=some (.slice (some ⟨gX,0,none⟩) R.length cX):=(O.cell (p:=⟨gR,k,none⟩) (by show gR<wr.heap.size;omega)).trans ZR.out;have y2:W.cell? ⟨gX,p,none⟩=some (.slice xa z.length xc):=(O.cell (p:=⟨gX,p,none⟩) (by show gX<wr.heap.size;omega)).trans ZX.out;have y3:D<W.heap.size:=by have:=O.size;omega
        have y4:gR<W.heap.size:=by omega
        have y5:gX<W.heap.size:=by omega
        simp only[QW,Q8]at DD;clear J hA;go_simp
        exact hK _ _ BR rfl
       any_goals exact .inl rfl
       all_goals refine .inr ?_
       intro A x W f' hA hR hf bk hx J DD K hK;have O:=hR.1 (hf (by kernel_rfl));have g1:=gw hA J 10 101;clear J hA DD;have dj:A.tmps[101]?.getD undef= .slice xa z.length xc:=by rw[←Lh];exact g1
       go_simp
       exact hK _ _ (Br.alloc Nl _) ⟨W.heap.size,rfl,O.size,Wn W _⟩
      ·intro A x W hA hR hx J K hK;have g1:=gw hA J 1 92;have g2:One1 wr.heap.size (.slice xa z.length xc) (x 102) W:=J ⟨11,.data⟩ (by simp) rfl;have a2:A.tmps.getD 102 undef=x 102:=hA.1 102 (by decide);clear J hA;have O:=hR.1 rfl;obtain⟨qb,eq,cW,bM⟩:=id g2;have aR:=ai.out.keep (KB.of_below O (Nat.zero_le _)) (fun g hg=>O.block g (qm ai.out.1 g hg));have ho:=aR.1;refine yx _ _ 67 rfl D 24 ib (.slice none 0 0) 24 Tryz.underlying67 cf bT b4 cj rfl (.slice ac af ad) ((R.drop (f+c+1)).take (p - f - c - 1)).length D2 g1 ho (.slice (some ⟨qb,0,none⟩) 1 1) 1 [.slice xa z.length xc] (a2.trans eq) ⟨rfl,by simp[Value.oneCell'],.inr ⟨⟨qb,0,none⟩,1,rfl,zJ bM⟩⟩ (by unfold maxLen;omega) (by omega) (by have:=O.size;omega) ?_;intro v' w' k1 k2 k3;obtain⟨k4,k5⟩:=qbE ho (by decide) k2 (by have:=O.size;omega);have k6:LstS D U w' v' ((R.drop (f+c+1)).take (p - f - c - 1)++[z]) (D2++[.slice xa z.length xc]):=aR.snoc k4 k1 ((bU.out.kb (KB.of_below O (Nat.zero_le _))).kb k4);refine hK v' w' (fun h=>by cases h) ⟨fun h=>(by cases h),fun _=>⟨(Spare.of_below _ O).trans k5 (fun _ _ h=>h),(KB.of_below O (by omega)).trans k4⟩⟩ ⟨.inr (.inr (fun _ h=>h)),.inr (.inr (fun _ h=>h)),.inr (.inr (fun _ h=>h)),.inr (.inr (fun _ h=>h)),.inr (.inr (fun _ h=>h)),.inr (.inr (fun _ h=>h)),.inr (.inr (fun _ h=>h)),.inr (.inr (fun _ h=>h)),.inr (.inr (fun _ h=>h)),.inr (.inr (fun _ h=>h)),.inr (.inr (fun _ h=>h)),.inr (.inr (fun _ h=>One1.spare h k5 (fun k e=>qm ai.out.1 k e))),.inl rfl,trivial⟩ ⟨_,k6,?_⟩;rcases k3 with k3|k3
       ·exact .inl k3
       ·refine .inr fun g hg=>?_
        rw[k3]at hg;cases hg;exact O.size
      intro x W hR aV;obtain⟨-,aJ, -⟩:=aV;change LstP D U wr.heap.size (.slice ac af ad) ((R.drop (f+c+1)).take (p - f - c - 1)++[z]) (x 103) W at aJ
      obtain⟨DN,hN,ao⟩:=aJ;obtain⟨am,ar⟩:=hR.2 rfl;obtain⟨na,nn,nc,eN⟩:=Qg hN.1;rw[eN]at hN ao;have al:W.heap[D]? =some (.cells #[.slice ab ae ag,.slice ac af ad] 69 (0,0)):=(am.block D a5 (fun e=>QQ ai.out.1 aA.out (by decide) D e rfl)).trans aA.out;obtain⟨-,fz⟩:=ze al;have ce:D<W.heap.size:=(Ai al).1;have n0:W.cell? ⟨D,1,none⟩=some (.slice ac af ad):=qd al 1;have HN:=hid hN;have aU:=hid ao;have aM:=hid am;have bD:=hid ar;have aq:=hid al;refine qp ?_;simp only[QF,Act.put,Ls,eN];generalize x 102=xB;clear hN ao am ar al hR eN;go_wp2_with fail
      refine qp ?_;go_wp2_with fail
      refine qw ?_;have aa:=(But.refl D W).set 1 (.slice na nn nc);have ah:KB D wr (W.setCell ⟨D,1,none⟩ (.slice na nn nc)):=bD.out.trans (KB.of_but aa (by omega) Nl aq.out (by decide));have ap:=ak.out.keep (b:=D) ah (fun q G=>(aa.block q (by have:=qm ak.out.1 q G;have:=aM.out.size;omega) (fun e=>QQ ak.out.1 aA.out (by decide) q G e)).trans (aM.out.block q (qm ak.out.1 q G) (fun e=>aC.out q G e)));have ay:=HN.out.keep (b:=D) (KB.of_but aa (by omega) Nl aq.out (by decide)) (fun q G=>aa.block q (qm HN.out.1 q G) (fun e=>QQ HN.out.1 aq.out (by decide) q G e));have aN:(W.setCell ⟨D,1,none⟩ (.slice na nn nc)).heap[D]? =some (.cells #[.slice ab ae ag,.slice na nn nc] 69 (0,0)):=block_setCell aq.out _;clear aa;generalize W.setCell ⟨D,1,none⟩ (.slice na nn nc)=Z at*;have az:=aw.out.trans ah;have de:=(az.below.cell (p:=⟨g,k*6+1,none⟩) a3).trans Y1.out;have cK:g<Z.heap.size:=by have:=ah.size;omega
      have be:=hid az;have bG:=hid ap;have bP:=hid ay;have bJ:=hid aN;clear ah ap ay aN az;go_wp2_with fail
      have ap:=bG.out;have ay:=bP.out;refine⟨⟨p+1,_,_,D1,DN,by go_num,by omega,by omega,bJ.out,?_,?_,?_,be.out⟩,by simp[intOf];omega⟩
      ·rw[show min (p+1 - f) c=min (p - f) c by omega];exact ap
      ·rw[show p+1 - f - c - 1=p - f - c by omega,cD.out bY];exact ay
      ·intro q G e;rcases aU.out with h|h
       ·rw[h]at e;exact aC.out q G e
       ·have:=h q e;have:=qm ak.out.1 q G;omega
     have dy:(f+c<p)=False:=eq_false bY;obtain rfl:p=f+c:=by omega
     go_wp2_with fail
     refine⟨⟨f+c+1,_,_,D1,D2,by go_num,by omega,by omega,aA.out,?_,?_,aC.out,aw.out⟩,by simp[intOf];omega⟩
     ·have G:=ak.out;rw[show min (f+c - f) c=min (f+c+1 - f) c by omega]at G;exact G
     ·have G:=ai.out;rw[show f+c - f - c - 1=f+c+1 - f - c - 1 by omega]at G;exact G
    obtain rfl:p=d:=by omega
    have dB:f+c<p:=cM.out;have dL:(k:Int)+1≤256:=by omega
    have bu:=(aw.out.block bp cx).trans dd.out;have b3:=hid bu;have bh:=hid (qF dl.out (fun q G=>aw.out.block q (cL.out q G)));have p2:wr.cell? ⟨bp,2,none⟩=some (.slice ua k uc):=qd bu 2;have cy:bp<wr.heap.size:=by omega
    have bS:bp≤wr.heap.size:=by omega
    have bW:=cz.out.trans (aw.out.below.mono (show bp≤D by omega));have bZ:xs.length=k*2:=c0.out;have b6: ∀a,a<k+1→PairS U wr (xs++[.slice ab ae ag]++[.slice ac af ad]) a (Yf SS a):=fun a ha=>by
     by_cases cF:a<k
     ·exact((dh.out a cF).keep aw.out (fun i q G au hc=>aw.out.block q (by
       obtain⟨cc,bE⟩:=hc;have h8:=Y5 b8.out (by decide) q bE;have:=cS.out
       omega))).snoc (by omega)
     ·obtain rfl:a=k:=by omega
      have a1:=Zp xs (.slice ab ae ag) (.slice ac af ad) undef undef bZ;unfold PairS;rw[a1.1,a1.2.1,c9.out];have e1:=ak.out.dig (show U≤D by omega);have e2:=ai.out.dig (show U≤D by omega);rw[show min (p - f) c=c by omega]at e1;rw[show p - f - c - 1=p - (f+c) - 1 by omega]at e2;exact⟨⟨_,e1⟩,⟨_,e2⟩⟩
    have c4:=hid b6;have bO:=hid bW;clear bu bW b6 bZ;go_wp2_with (at_builtin;refine QS rfl _ _ _ rfl bp 69 (by decide) iS _ 2 48 Tryz.underlying53 cO dc dm c8 rfl (by decide) (.slice ua k uc) k xs [.slice ab ae ag,.slice ac af ad] _ rfl bh.out rfl rfl (by simp[Value.oneCell']) (by unfold maxLen;omega) (by omega) bS ?_;intro v' w' ho hk am;obtain⟨na,nn,nc,rfl⟩:=Qg ho;have aB:w'.heap[bp]? =some (.cells #[.int .u64 zs.length,.int .u64 I,.slice ua k uc] 55 (0,0)):=(am.block bp cy (fun e=>QQ bh.out b3.out (by decide) bp e rfl)).trans b3.out;have n2:w'.cell? ⟨bp,2,none⟩=some (.slice ua k uc):=qd aB 2;obtain⟨-,fz⟩:=ze aB;have ce:bp<w'.heap.size:=(Ai aB).1;have bK:=hid ho;have cd:=hid hk;have cw:=hid am;have aH:=hid aB;clear ho hk am aB)
    have aa:=(But.refl bp w').set 2 (.slice na nn nc);have cQ: ∀a,a<k+1→PairS U (w'.setCell ⟨bp,2,none⟩ (.slice na nn nc)) (xs++[.slice ab ae ag]++[.slice ac af ad]) a (Yf SS a):=fun a ha=>
     ((c4.out a ha).keep cd.out (fun i q G au hc=>cw.out.block q au (fun e=>by
      obtain⟨cc,bE⟩:=Qh bh.out q e;obtain⟨c2,aL⟩:=hc;exact Y5 bE (by decide) q aL rfl))).keep (KB.of_but aa (Nat.zero_le _) (Nat.zero_le _) aH.out (by decide)) (fun i q G au hc=>aa.block q au (by
      obtain⟨c2,aL⟩:=hc;exact Y5 aH.out (by decide) q aL))
    have cT:(w'.setCell ⟨bp,2,none⟩ (.slice na nn nc)).ownsRow bp 69 2 (.slice na nn nc) (k+1) (xs++[.slice ab ae ag]++[.slice ac af ad]):=by
     have e:xs++[Value.slice ab ae ag]++[.slice ac af ad]=xs++[.slice ab ae ag,.slice ac af ad]:=by simp
     rw[e];exact qF bK.out (fun q G=>aa.block q (qm bK.out q G) (fun e=>QQ bK.out aH.out (by decide) q G e))
    exact⟨⟨k+1,_,_,by go_num,by omega,block_setCell aH.out _,cT,cQ,(bO.out.trans cd.out.below).setCell Nl _⟩,by simp[intOf];omega⟩
  obtain rfl:m=k:=by omega
  have aj:=hid aD;have bm:=hid a4;have bA:=qg cv.out (a6▸V);have cI:=hid (bO.out.trans (V.mono (show U≤bp by omega)));obtain⟨cR,fR⟩:=ze bA;obtain⟨cP,fP⟩:=ze aX;have aG:U+1<wr.heap.size:=by omega
  have bi:=hid bA;clear aD a4 bA V;go_wp2_with fail
  have aa:=((((But.refl (U+1) wr).set 0 (.int .u64 zs.length)).set 1 (.int .u64 I)).set 2 (.slice ua m uc));exact Bp (qA rfl _ _ _ _ _ _ _ rfl (ZC bi.out _ _ _) Tryz.underlying55 rfl (by kernel_rfl)) rfl ⟨_,xs,rfl,by rw[ax];exact ownsRow_le (qF aj.out (fun q G=>aa.block q (qm aj.out q G) (by have:=Qy aj.out q G;omega))) (by omega),by rw[ax];exact(fun a ha=>(bm.out a ha).keep (KB.of_but aa (Nat.zero_le _) (Nat.zero_le _) bi.out (by decide)) (fun i q G au hc=>aa.block q au (by
    obtain⟨c2,aL⟩:=hc;exact Y5 bi.out (by decide) q aL))),by rw[ax];exact ZE cI.out (by omega) _ _ _⟩
structure Fr (B1 B2:Nat)(W W':World):Prop where
 os:W'.os=W.os
 tape:W'.tape=W.tape
 output:W'.output=W.output
 size:W.heap.size≤W'.heap.size
 block: ∀k:Nat,k<W.heap.size→(k<B1∨B2≤k)→W'.heap[k]? =W.heap[k]?
namespace Fr
variable {B1 B2:Nat} {W W' W'':World}
theorem refl (B1 B2:Nat)(W:World):Fr B1 B2 W W:=⟨rfl,rfl,rfl,Nat.le_refl _,fun _ _ _=>rfl⟩
theorem trans (h:Fr B1 B2 W W')(k:Fr B1 B2 W' W''):Fr B1 B2 W W'':=⟨k.os.trans h.os,k.tape.trans h.tape,k.output.trans h.output,Nat.le_trans h.size k.size,fun j q o=>(k.block j (Nat.lt_of_lt_of_le q h.size) o).trans (h.block j q o)⟩
theorem of_below (h:Below W.heap.size W W'):Fr B1 B2 W W':=⟨h.os,h.tape,h.output,h.size,fun k o _=>h.block k o⟩
theorem below (h:Fr B1 B2 W W')(q:B1≤W.heap.size):Below B1 W W':=⟨h.os,h.tape,h.output,h.size,fun k o=>h.block k (by omega) (.inl o)⟩
theorem row {g:Nat}{o:Obj}(h:Fr B1 B2 W W')(q:W.heap[g]? =some o)(r:g<B1∨B2≤g):W'.heap[g]? =some o:=(h.block g (Ai q).1 r).trans q
end Fr
theorem Zy {B:Nat}{W:World}{v:Value}{z:List Int}(h:OwnB B W v z): ∀g,v.ownBlock=some g→ ∃c,W.heap[g]? =some (.cells c 5 (0,0)):=by
 intro g o;rcases h.2 with⟨-,rfl⟩|⟨r,G,D,rfl,I,q, -⟩
 ·cases o
 ·obtain rfl:r=g:=Option.some.inj o;exact⟨_,q⟩
theorem OwnB.stay {B:Nat}{W W':World}{v:Value}{z:List Int}(h:OwnB B W v z)(I: ∀g,v.ownBlock=some g→W'.heap[g]? =W.heap[g]?):OwnB B W' v z:=by
 refine⟨h.1,?_⟩;rcases h.2 with o|⟨g,r,q,rfl,G,o,D⟩
 ·exact .inl o
 ·exact .inr ⟨g,r,q,rfl,G,(I g rfl).trans o,D⟩
theorem ListsV.swap {B a i:Nat}{W W':World}{xs:List Value}{V:List (List (List Int))}{J:List (List Value)}{v':Value}{z':List Int}(h:ListsV B W xs V J)(X:a<V.length)(hi:i<(V.getD a []).length)
  (af:W'.ownsRow B 24 1 (xs.getD a undef) (V.getD a []).length ((J.getD a []).set i v')) (hz:OwnB B W' v' z')
  (ac: ∀g,g<W.heap.size→(dgV J a i).ownBlock≠some g→(xs.getD a undef).ownBlock≠some g→W'.heap[g]? =W.heap[g]?)
  (D:v'.ownBlock=(dgV J a i).ownBlock∨ ∀g,v'.ownBlock=some g→W.heap.size≤g):ListsV B W' xs (V.set a ((V.getD a []).set i z')) (J.set a ((J.getD a []).set i v')):=by
 have hl:=(h.each a X).len;have ae:a<J.length:=by rw[h.ld];exact X
 have ah: ∀b j,dgV (J.set a ((J.getD a []).set i v')) b j=if a=b∧i=j then v' else dgV J b j:=fun b j=>by
  unfold dgV;rw[QD _ _ _ _ _ ae];by_cases G:a=b
  ·subst G;rw[if_pos rfl,QD _ _ _ _ _ (by omega)];by_cases r:i=j
   ·rw[if_pos r,if_pos ⟨rfl,r⟩]
   ·rw[if_neg r,if_neg (fun e=>r e.2)]
  ·rw[if_neg G,if_neg (fun e=>G e.1)]
 have ab: ∀b j,b<V.length→j<(V.getD b []).length→ ∀g,(dgV J b j).ownBlock=some g→(a≠b∨i≠j)→W'.heap[g]? =W.heap[g]? :=fun b j O U g o ag=>by
  have ho:=(h.each b O).2 j U;refine ac g (zm ho g o).2 (fun e=>h.ad a i b j g ag e o) (fun e=>?_);obtain⟨c1,aa⟩:=Zy ho g o;obtain⟨c2,I⟩:=Qh (h.each a X).1 g e;rw[aa]at I;simp only[Option.some.injEq,Obj.cells.injEq]at I;exact absurd I.2.1 (by decide)
 refine⟨by rw[List.length_set];exact h.lx,by rw[List.length_set,List.length_set];exact h.ld,fun b O=>?_,h.ax,fun b j c k g Y o=>?_⟩
 ·rw[List.length_set]at O;rw[QD _ _ _ _ _ X,QD _ _ _ _ _ ae];by_cases G:a=b
  ·subst G;rw[if_pos rfl,if_pos rfl];refine⟨by rw[List.length_set];exact af,fun j U=>?_⟩;rw[List.length_set]at U;unfold qK;rw[QD _ _ _ _ _ hi,QD _ _ _ _ _ (by omega)];by_cases r:i=j
   ·rw[if_pos r,if_pos r];exact hz
   ·rw[if_neg r,if_neg r];exact((h.each a X).2 j U).stay fun g o=>ab a j X U g o (.inr r)
  ·rw[if_neg G,if_neg G];refine⟨qF (h.each b O).1 fun g o=>ac g (qm (h.each b O).1 g o) (fun e=>?_) (fun e=>h.ax a b g G e o),fun j U=>((h.each b O).2 j U).stay fun g o=>ab b j O U g o (.inl G)⟩;obtain⟨c1,aa⟩:=Zy ((h.each a X).2 i hi) g e;obtain⟨c2,I⟩:=Qh (h.each b O).1 g o;rw[aa]at I;simp only[Option.some.injEq,Obj.cells.injEq]at I;exact absurd I.2.1 (by decide)
 ·rw[ah]at o⊢;by_cases r:a=b∧i=j
  ·rw[if_pos r]at o;have Z: ¬(a=c∧i=k):=fun e=>by rcases Y with q|q;exact q (r.1.symm.trans e.1);exact q (r.2.symm.trans e.2)
   rw[if_neg Z];rcases D with D|D
   ·rw[D]at o;rw[r.1,r.2]at o;exact h.ad b j c k g Y o
   ·exact fun e=>by have:=(h.dlt c k g e).2;have:=D g o;omega
  ·rw[if_neg r]at o;by_cases Z:a=c∧i=k
   ·rw[if_pos Z];rcases D with D|D
    ·rw[D,Z.1,Z.2];exact h.ad b j c k g Y o
    ·exact fun e=>by have:=(h.dlt b j g o).2;have:=D g e;omega
   ·rw[if_neg Z];exact h.ad b j c k g Y o
def qhQ (LL:List (List (List Int)))(a:Nat):Nat:=((LL.take a).map List.length).sum
theorem qgJ (o:List (List (List Int))){a:Nat}(q:a<o.length):qhQ o (a+1)=qhQ o a+(o.getD a []).length:=by
 have e:o.take (a+1)=o.take a++[o.getD a []]:=by
  rw[List.take_add_one,List.getElem?_eq_getElem q,Lg,List.getElem?_eq_getElem q];rfl
 unfold qhQ;rw[e,List.map_append,List.sum_append];simp
def yB (LL:List (List (List Int)))(a i:Nat):Nat:=(1+(qhQ LL a+i))%256
theorem qd7 (o:List (List (List Int)))(a i:Nat):yB o a i<256:=Nat.mod_lt _ (by decide)
theorem qbA (o:List (List (List Int))):yB o 0 0=1:=by simp[yB,qhQ]
theorem qcA (o:List (List (List Int))){a:Nat}(q:a<o.length):yB o (a+1) 0=yB o a (o.getD a []).length:=by
 unfold yB;rw[qgJ o q,Nat.add_zero]
theorem qbB (o:List (List (List Int)))(a i:Nat):yB o a (i+1)=(yB o a i+1)%256:=by
 unfold yB;omega
def Mk (k:Nat)(z:List Int):Prop:=1≤z.length∧z.length≤65∧qr z 0=k∧qr z (z.length - 1)=k
def qic (a j b i:Nat):Prop:=b<a∨(b=a∧i<j)
def SpS (B1 B2:Nat)(w:World)(u:Value)(m:Nat)(xs:List Value)(LL:List (List (List Int)))(DS:List (List Value))(a j:Nat)(W:World):Prop:=
 ∃LL' DS',ListsV B1 W xs LL' DS'∧LL'.length=LL.length∧(∀b,(LL'.getD b []).length=(LL.getD b []).length)∧(∀b i,i<(LL.getD b []).length→qic a j b i→Mk (yB LL b i) (qK (LL'.getD b []) i))∧
  (∀b i,¬qic a j b i→qK (LL'.getD b []) i=qK (LL.getD b []) i∧dgV DS' b i=dgV DS b i)∧W.ownsRow B1 69 2 u m xs∧Fr B1 B2 w W
theorem qgT {B1 B2 m:Nat}{w:World}{u:Value}{xs:List Value}{q:List (List (List Int))}{o:List (List Value)}(h:ListsV B1 w xs q o)(D:w.ownsRow B1 69 2 u m xs):SpS B1 B2 w u m xs q o 0 0 w:=
 ⟨q,o,h,rfl,fun _=>rfl,fun b i _ r=>by rcases r with r|r<;>omega,fun b i _=>⟨rfl,rfl⟩,D,Fr.refl _ _ _⟩
theorem SpS.row {B1 B2 m a:Nat}{w W:World}{u:Value}{xs:List Value}{q:List (List (List Int))}{I:List (List Value)}(h:SpS B1 B2 w u m xs q I a (q.getD a []).length W):SpS B1 B2 w u m xs q I (a+1) 0 W:=by
 obtain⟨G,D,Z,U,X,V,h5,O,Y⟩:=h;refine⟨G,D,Z,U,X,fun b i r o=>V b i r ?_,fun b i o=>h5 b i fun e=>o ?_,O,Y⟩
 ·rcases o with o|o
  ·by_cases J:b<a
   ·exact .inl J
   ·obtain rfl:b=a:=by omega
    exact .inr ⟨rfl,r⟩
  ·omega
 ·rcases e with e|e
  ·exact .inl (by omega)
  ·exact .inl (by omega)
theorem SpS.fr {B1 B2 m a j:Nat}{w W:World}{u:Value}{xs:List Value}{q:List (List (List Int))}{o:List (List Value)}(h:SpS B1 B2 w u m xs q o a j W):Fr B1 B2 w W:=by
 obtain⟨_,_,_,_,_,_,_,_,h⟩:=h;exact h
theorem SpS.steps {B1 B2 m a j:Nat}{w W:World}{u:Value}{xs:List Value}{q:List (List (List Int))}{o:List (List Value)}(h:SpS B1 B2 w u m xs q o a j W):W.ownsRow B1 69 2 u m xs:=by
 obtain⟨_,_,_,_,_,_,_,h,_⟩:=h;exact h
theorem SpS.below {B1 B2 m a j:Nat}{w W W':World}{u:Value}{xs:List Value}{G:List (List (List Int))}{I:List (List Value)}(h:SpS B1 B2 w u m xs G I a j W)(o:Below W.heap.size W W'):SpS B1 B2 w u m xs G I a j W':=by
 obtain⟨D,r,Y,O,V,U,Z,q,X⟩:=h;exact⟨D,r,Y.below o,O,V,U,Z,qF q (fun g J=>o.block g (qm q g J)),X.trans (Fr.of_below o)⟩
theorem SpS.mark {B1 B2 m a j:Nat}{w W W':World}{u v':Value}{xs:List Value}{J:List (List (List Int))}{DS:List (List Value)}{z':List Int}(h:SpS B1 B2 w u m xs J DS a j W)(ha:a<J.length)(hj:j<(J.getD a []).length)
  (ae: ∀vs,W.ownsRow B1 24 1 (xs.getD a undef) (J.getD a []).length vs→W'.ownsRow B1 24 1 (xs.getD a undef) (J.getD a []).length (vs.set j v')) (hz:OwnB B1 W' v' z') (hm:Mk (yB J a j) z')
  (V: ∀g,g<W.heap.size→(dgV DS a j).ownBlock≠some g→(xs.getD a undef).ownBlock≠some g→W'.heap[g]? =W.heap[g]?)
  (ad:v'.ownBlock=(dgV DS a j).ownBlock∨ ∀g,v'.ownBlock=some g→W.heap.size≤g) (ag:Fr B1 B2 W W'):SpS B1 B2 w u m xs J DS a (j+1) W':=by
 obtain⟨G,ac,O,h2,X,h4,h5,h6,h7⟩:=h;have ah: ¬qic a j a j:=fun e=>by rcases e with e|e<;>omega
 have r:a<G.length:=by omega
 have ai:a<ac.length:=by rw[O.ld];exact r
 have Y:j<(G.getD a []).length:=by rw[X];exact hj
 have hl:=(O.each a r).len;have af:=(h5 a j ah).2;have ab:=ae (ac.getD a []) (by rw[←X];exact(O.each a r).1);rw[←X]at ab;rw[←af]at V ad;have aj:=O.swap r Y ab hz V ad;have aa: ∀b i,qK ((G.set a ((G.getD a []).set j z')).getD b []) i=if a=b∧j=i then z' else qK (G.getD b []) i:=fun b i=>by
  rw[QD _ _ _ _ _ r];by_cases o:a=b
  ·subst o;rw[if_pos rfl];unfold qK;rw[QD _ _ _ _ _ Y];by_cases e:j=i
   ·rw[if_pos e,if_pos ⟨rfl,e⟩]
   ·rw[if_neg e,if_neg (fun q=>e q.2)]
  ·rw[if_neg o,if_neg (fun q=>o q.1)]
 refine⟨_,_,aj,by rw[List.length_set];exact h2,fun b=>?_,fun b i hi I=>?_,fun b i I=>?_,qF h6 fun g hg=>V g (qm h6 g hg) (fun e=>?_) (fun e=>?_),h7.trans ag⟩
 ·rw[QD _ _ _ _ _ r];by_cases o:a=b
  ·subst o;rw[if_pos rfl,List.length_set];exact X a
  ·rw[if_neg o];exact X b
 ·rw[aa];by_cases e:a=b∧j=i
  ·obtain⟨rfl,rfl⟩:=e;rw[if_pos ⟨rfl,rfl⟩];exact hm
  ·rw[if_neg e];refine h4 b i hi ?_;rcases I with I|⟨rfl,I⟩
   ·exact .inl I
   ·exact .inr ⟨rfl,by rcases Nat.lt_or_ge i j with q|q;exact q;exact absurd ⟨rfl,by omega⟩ e⟩
 ·have e: ¬(a=b∧j=i):=fun e=>I (.inr ⟨e.1.symm,by omega⟩)
  have U: ¬qic a j b i:=fun q=>I (by rcases q with q|q;exact .inl q;exact .inr ⟨q.1,by omega⟩)
  refine⟨by rw[aa,if_neg e];exact(h5 b i U).1,?_⟩;rw[←(h5 b i U).2];unfold dgV;rw[QD _ _ _ _ _ ai];by_cases o:a=b
  ·subst o;rw[if_pos rfl,QD _ _ _ _ _ (by omega),if_neg (fun q=>e ⟨rfl,q⟩)]
  ·rw[if_neg o]
 ·obtain⟨c1,Z⟩:=Qh h6 g hg;obtain⟨c2,D⟩:=Zy ((O.each a r).2 j Y) g e;rw[Z]at D;simp only[Option.some.injEq,Obj.cells.injEq]at D;exact absurd D.2.1 (by decide)
 ·obtain⟨c1,Z⟩:=Qh h6 g hg;obtain⟨c2,D⟩:=Qh (O.each a r).1 g e;rw[Z]at D;simp only[Option.some.injEq,Obj.cells.injEq]at D;exact absurd D.2.1 (by decide)
theorem qcJ {w:World}{g:Nat}{o:Array Value}{T:TypeId}(h:w.heap[g]? =some (.cells o T (0,0)))(j:Nat):w.cell? ⟨g,j,none⟩=o[j]? :=by rw[qd h j]
theorem qcP {ops:Array Oper}{J:List Oper}{o:Oper}{a:Act}{Q:Exit→Act→World→Prop}(aa:o.guard=none)(s x:Operand)
  (ho:o.op= .call { callee:= .builtin .append,args:= #[s,x],argTypes:= #[24,24] }) {B:Nat} {W:World} {v:Value} {z:List Int} (hs:a.eval s=v) (hv:OwnB B W v z) (hz:0<z.length)
  (k:Int) (U:0≤k∧k≤255) (T:TypeId) (hx:a.eval x= .slice (some ⟨W.heap.size,0,none⟩) 1 1) (hm:z.length≤70368744177000) (hB:B≤W.heap.size)
  (h: ∀v' w',OwnB B w' v' (z++[k])→Spare (fun q=>v.ownBlock≠some q) W w'→(v'.ownBlock=v.ownBlock∨ ∀g,v'.ownBlock=some g→W.heap.size≤g)→wpList Tryz.prog ops Q J (a.put o.dst v') w'):wpList Tryz.prog ops Q (o::J) a (W.alloc (.cells #[.int .u8 k] T)):=by
 obtain⟨i0,hi,ac,af,ab⟩:=info_parts Qr;have V: ∀q∈z++[k],0≤q∧q≤255:=fun q r=>by
  rcases List.mem_append.1 r with r|r
  ·exact hv.1 q r
  ·rw[List.mem_singleton.1 r];exact U
 have X:Spare (fun q=>v.ownBlock≠some q) W (W.alloc (.cells #[.int .u8 k] T)):=Spare.of_below _ (Br.alloc Nl _);rcases hv.2 with⟨e, -⟩|⟨g,Z,G,rfl,h0,h1,h2,h3,h4,h6⟩
 ·rw[e]at hz;simp at hz
 ·have hg:g<W.heap.size:=(Ai h1).1;have D:(W.alloc (.cells #[.int .u8 k] T)).heap[g]? =some (.cells G 5 (0,0)):=((Below.refl W.heap.size W).alloc Nl _).block g hg |>.trans h1
  refine wpList_append_arg _ aa s x _ ho 5 i0 (.int .u8 0) 1 1 Tryz.underlying24 hi ac af ab rfl (by decide) g 0 z.length Z (G.toList.take z.length) hs (by simp;omega) (fun j u' I=>?_) _ 1 1 [.int .u8 k] hx rfl (cell_one_new W _ T) (by simp[Value.oneCell']) (fun hr j I=>?_) (by unfold maxLen;omega) (by omega) (fun hr=>?_) (fun hr v' w' O ae=>?_)
  ·rw[Nat.zero_add,qcJ D];rw[List.getElem?_take]at I;split at I
   ·simpa using I
   ·cases I
  ·obtain rfl:j=0:=by simpa using I
   rw[Nat.zero_add,Nat.mul_one,Nat.add_zero,qcJ D];refine⟨?_,frozen_of_row _ g z.length _ _ D⟩;rw[Array.getElem?_eq_getElem (by omega)];rfl
  ·rw[Nat.zero_add,Nat.mul_one];show wpList _ _ _ _ _ ((W.alloc (.cells #[.int .u8 k] T)).setCell ⟨g,z.length,none⟩ (.int .u8 k))
   have h9:=heap_setCell_same _ g z.length G _ (.int .u8 k) D;refine h _ _ ⟨V,.inr ⟨g,Z,_,by rw[List.length_append,List.length_singleton],h0,h9,by rw[List.length_append,List.length_singleton];exact hr,by simpa using h3,h4,?_⟩⟩ (X.trans (T:=fun k=>k≠g) ⟨rfl,rfl,rfl,by simp[World.setCell],fun k _ U=>heap_setCell_other _ _ _ _ U⟩ (fun k U ad e=>?_)) (.inl rfl)
   ·rw[List.length_append,List.length_singleton,List.take_add_one,Array.toList_setIfInBounds,List.take_set_of_le Nl,h6,List.getElem?_set,if_pos rfl,if_pos (show z.length<G.toList.length by simp;omega),List.map_append];rfl
   ·subst e;exact ad rfl
  ·have Y:w'.ownsRow (W.alloc (.cells #[.int .u8 k] T)).heap.size 5 1 v' (z.length+1) ((z++[k]).map qt):=by rw[h6]at O;rw[List.map_append];exact O
   have ag:W.heap.size≤(W.alloc (.cells #[.int .u8 k] T)).heap.size:=by simp
   refine h v' w' ⟨V,(yI Y).le (by omega)⟩ (X.trans (Spare.of_grown ae) (fun _ _ _ e=>by cases e)) (.inr fun q r=>by have:=Qy Y q r;omega)
def TwoB (B:Nat)(x y v:Value)(W:World):Prop:= ∃q,v= .slice (some ⟨q,0,none⟩) 2 2∧B≤q∧W.heap[q]? =some (.cells #[x,y] 67 (0,0))
theorem TwoB.below {B:Nat}{x y v:Value}{W W':World}(h:TwoB B x y v W)(D:Below W.heap.size W W'):TwoB B x y v W':=by
 obtain⟨q,e,r,o⟩:=h;exact⟨q,e,r,qg o D⟩
theorem SpS.get {B1 B2 m a j:Nat}{w W:World}{u:Value}{xs:List Value}{q:List (List (List Int))}{I:List (List Value)}(h:SpS B1 B2 w u m xs q I a j W)(ha:a<q.length)(Z:j<(q.getD a []).length):
  ∃o r,xs.getD a undef= .slice (some ⟨o,0,none⟩) (q.getD a []).length r∧B1≤o∧o<W.heap.size∧(∃vs,W.ownsRow B1 24 1 (xs.getD a undef) (q.getD a []).length vs)∧W.cell? ⟨o,j,none⟩=some (dgV I a j)∧OwnB B1 W (dgV I a j) (qK (q.getD a []) j):=by
 obtain⟨X,O,h1,h2,G,h4,h5,h6,h7⟩:=h;have U: ¬qic a j a j:=fun e=>by rcases e with e|e<;>omega
 have V:j<(X.getD a []).length:=by rw[G];exact Z
 have D:=h1.each a (by omega);obtain⟨o,r,e,g1,g2,Y⟩:=z7 D.1 (by omega);rw[G]at e;obtain⟨q1,J⟩:=h5 a j U;have hl:=D.len;refine⟨o,r,e,g1,g2,⟨_,by rw[←G];exact D.1⟩,Y j _ ?_,?_⟩
 ·rw[←J];unfold dgV;rw[Lg (l:=O.getD a []),List.getElem?_eq_getElem (by omega)];rfl
 ·rw[←q1,←J];exact D.2 j V
theorem qgc (total aY:Int)(m B1 B2:Nat)(u:Value)(xs:List Value)(r:List (List (List Int)))(DS:List (List Value))(w:World)(hu:w.ownsRow B1 69 2 u m xs)(hl:ListsV B1 w xs r DS)
  (hm:m≤255) (aM:r.length=m*2) (cB:B2≤w.heap.size) (cK:B1≤w.heap.size) (bk: ∀a g,(xs.getD a undef).ownBlock=some g→g<B2) (bz: ∀a i g,(dgV DS a i).ownBlock=some g→g<B2) (br: ∀g,u.ownBlock=some g→g<B2)
  (aV: ∀a i,i<(r.getD a []).length→1≤(qK (r.getD a []) i).length∧(qK (r.getD a []) i).length≤64) (aL: ∀a,(r.getD a []).length≤4194305):
  Calls Tryz.prog 34 #[.agg #[.int .u64 total,.int .u64 aY,u]] w fun e w'=>e= .returned (.tuple #[])∧SpS B1 B2 w u m xs r DS (m*2) 0 w':=by
 obtain⟨bx,bU⟩:=Ex w.heap.size;have bu:=qgT (B2:=B2) hl hu;have am: ∀a i,a<r.length→i<(r.getD a []).length→OwnB B1 w (dgV DS a i) (qK (r.getD a []) i):=fun a i ha hi=>(hl.each a ha).2 i hi
 have ba:=hl.lx;have aq:=hid bu;have bI:=hid aV;have bP:=hid aL;have ci:=hid bk;have bZ:=hid bz;have aO:=hid aM;have bG:=hid ba;have bb:=hid (fun a ha=>ym (hl.each a ha).1);obtain⟨ua,uc,rfl⟩:=ym hu;have cQ:=hid br;have cm:(m:Int)≤255:=by omega
 clear bu aV aL bk bz aM ba hu hl am br;go_enter Tryz.func34,Tryz.ntmps34
 go_upto_region 1 with(fail)
 refine qn ?_;intro wA aQ;have aX:Below w.heap.size w wA:=by rw[aQ];exact Br.alloc Nl _
 have aD:wA.heap[bx]? =some (.cells #[.int .u64 total,.int .u64 aY,.slice ua m uc] 55 (0,0)):=by rw[aQ];exact qe _ _ bU.symm
 have bm:=hid (aq.out.below aX);have bR:=hid aD;have p2:wA.cell? ⟨bx,2,none⟩=some (.slice ua m uc):=qd aD 2;have cN:bx<wA.heap.size:=(Ai aD).1;have cU:=hid aX;clear aQ aD aX aq;go_wp2_with fail
 go_loopw [11,2] (fun i k W=> ∃n:Nat,i= .int .i64 (n:Nat)∧n≤m∧k= .int .u8 ((yB r (n*2) 0:Nat):Int)∧SpS B1 B2 w (.slice ua m uc) m xs r DS (n*2) 0 W∧Fr B1 B2 wA W) (fun i _ _=>m - (intOf i).toNat)
 case atStart=>exact⟨0,rfl,Nat.zero_le _,by rw[Nat.zero_mul,qbA];rfl,by rw[Nat.zero_mul];exact bm.out,Fr.refl _ _ _⟩
 case round=>
  clear bm;obtain⟨n,rfl,hn,rfl,o,J⟩:=hrel;by_cases bV:n<m
  case pos=>
   have cn:(n:Int)<(m:Int):=by omega
   obtain⟨Z,cS,e, -,bd,a7⟩:=z7 o.steps (by omega);simp only[Value.slice.injEq,true_and]at e;obtain⟨rfl,rfl⟩:=e;have aS:=bG.out;have cF:=aO.out;obtain⟨x0,ay⟩:=Ex (xs.getD (n*2) undef);obtain⟨x1,au⟩:=Ex (xs.getD (n*2+1) undef);have s0:wr.cell? ⟨Z,n*2,none⟩=some x0:=a7 _ _ (by rw[←ay,Lg,List.getElem?_eq_getElem (by omega)];rfl);have s1:wr.cell? ⟨Z,n*2+1,none⟩=some x1:=a7 _ _ (by rw[←au,Lg,List.getElem?_eq_getElem (by omega)];rfl);obtain⟨af,ag,e0⟩:=bb.out (n*2) (by omega);obtain⟨ac,ak,e1⟩:=bb.out (n*2+1) (by omega);rw[ay]at e0;rw[au]at e1;have aU:=J.row bR.out (.inr (by omega));have q2:wr.cell? ⟨bx,2,none⟩=some (.slice (some ⟨Z,0,none⟩) m uc):=qd aU 2;have cg:bx<wr.heap.size:=(Ai aU).1;subst e0;subst e1;obtain⟨l0,aN⟩:=Ex ((r.getD (n*2) []).length);obtain⟨l1,a5⟩:=Ex ((r.getD (n*2+1) []).length);rw[aN]at ay s0;rw[a5]at au s1;have a9:=hid aN;have a6:=hid a5;clear aN a5;have aq:=hid s0;have bC:=hid s1;have bh:=hid q2;have bg:=hid ay;have be:=hid au;have ad:=hid o;have U:=hid J;clear a7 o J aU ay au s0 s1 q2;go_upto_region 5 with(fail)
   refine qE (n:=15) (w0:=wr) (B:=wr.heap.size) [.v 14 (.pointer (some ⟨bx,2,none⟩)),.v 15 (.slice (some ⟨Z,0,none⟩) m uc),.v 16 (.int .i64 (n:Nat)),.v 17 (.pointer (some ⟨Z,n*2,none⟩)),.v 18 (.pointer (some ⟨Z,n*2,none⟩)),.v 19 (.slice af l0 ag),.v 20 (.pointer (some ⟨bx,2,none⟩)),.v 21 (.slice (some ⟨Z,0,none⟩) m uc),.v 22 (.int .i64 (n:Nat)),.v 23 (.pointer (some ⟨Z,n*2,none⟩)),.v 24 (.pointer (some ⟨Z,n*2+1,none⟩)),.v 25 (.slice ac l1 ak),.p 26 (TwoB wr.heap.size (.slice af l0 ag) (.slice ac l1 ak)),.v 27 (.int .i64 2),.v 28 (.int .i64 0)] (by exact⟨(fun _ _ _ h hb=>TwoB.below h hb),trivial⟩) Br.drew Nl ?_ ?_
   ·repeat' (with_reducible first|exact qz|refine qx ?_ ?_)
    all_goals try
     intro AA x W hA hW av aa D K hK;have a1:=hA.2 1 (by decide);conv at a1=>rhs;whnf
     have a3:=hA.2 3 (by decide);conv at a3=>rhs;whnf
     have y0:W.cell? ⟨bx,2,none⟩=some (.slice (some ⟨Z,0,none⟩) m uc):=(hW.cell (p:=⟨bx,2,none⟩) cg).trans bh.out;have y1:W.cell? ⟨Z,n*2,none⟩=some (.slice af l0 ag):=(hW.cell (p:=⟨Z,n*2,none⟩) bd).trans aq.out;have y2:W.cell? ⟨Z,n*2+1,none⟩=some (.slice ac l1 ak):=(hW.cell (p:=⟨Z,n*2+1,none⟩) bd).trans bC.out;have y3:bx<W.heap.size:=by omega
     have y4:Z<W.heap.size:=by omega
     simp only[QW,Q8]at D;clear aa hA;go_simp
     exact hK _ _ BR rfl
    ·intro AA x W hA hW av aa _ K hK;have b9:=gv hA aa 5 19;have b3:=gv hA aa 11 25;clear aa hA;have cp:AA.tmps[19]?.getD undef= .slice af l0 ag:=by rw[←Lh];exact b9
     have cr:AA.tmps[25]?.getD undef= .slice ac l1 ak:=by rw[←Lh];exact b3
     go_simp
     exact hK _ _ (Br.alloc Nl _) ⟨_,rfl,av,Wn W _⟩
    ·intro AA x W hA hW av aa _ K hK;have bo:=gp hA aa 12 26;obtain⟨q,bo, -, -⟩:=bo;clear aa hA;go_simp
     exact hK _ _ BR rfl
   intro x W hW av bH;obtain⟨bc, -⟩:=bH;change TwoB wr.heap.size (.slice af l0 ag) (.slice ac l1 ak) (x 26) W at bc
   obtain⟨gB,eB,cc,bq⟩:=bc;refine qw ?_;simp only[QF,Act.put,Ls,eB];have bt:=hid (ad.out.below hW);have b8:=hid (U.out.trans (Fr.of_below hW));have cj:=hid (show ∀c,c<2→ ∃xa xc,xs.getD (n*2+c) undef= .slice xa (r.getD (n*2+c) []).length xc∧ ∀V:World,V.heap[gB]? =some (.cells #[.slice af l0 ag,.slice ac l1 ak] 67 (0,0))→V.cell? ⟨gB,c,none⟩=some (.slice xa (r.getD (n*2+c) []).length xc) from fun c hc=>by
    by_cases h0:c=0
    ·subst h0;exact⟨af,ag,by rw[Nat.add_zero,a9.out];exact bg.out,fun V hV=>by rw[Nat.add_zero,a9.out];exact qd hV 0⟩
    ·obtain rfl:c=1:=by omega
     exact⟨ac,ak,by rw[a6.out];exact be.out,fun V hV=>by rw[a6.out];exact qd hV 1⟩)
   have cb:=hid bq;have bL:B2≤gB:=by have:=U.out.size;omega
   have cG:n<m:=bV;clear bq eB cc hW av aq bC bh bg be ad U a9 a6 p2;generalize x 26=cT;go_wp2_with fail
   go_loopw [28,2] (fun l k V=> ∃c:Nat,l= .int .i64 (c:Nat)∧c≤2∧k= .int .u8 ((yB r (n*2+c) 0:Nat):Int)∧SpS B1 B2 w (.slice (some ⟨Z,0,none⟩) m uc) m xs r DS (n*2+c) 0 V∧Fr B1 B2 W V) (fun l _ _=>2 - (intOf l).toNat)
   case atStart=>exact⟨0,rfl,by omega,rfl,bt.out,Fr.refl _ _ _⟩
   case round=>
    clear bt;obtain⟨c,rfl,hc,rfl,o,J⟩:=hrel;by_cases b5:c<2
    case pos=>
     have ct:(c:Int)<2:=by omega
     obtain⟨xa,xc,aC,bv⟩:=cj.out c b5;have aB:=bv wr (J.row cb.out (.inr bL));have bK:gB<wr.heap.size:=World.block_lt_of_cell? wr _ aB;obtain⟨a,ha⟩:=Ex (n*2+c);rw[ha]at aC aB o;have aR:a<r.length:=by have:=aO.out;omega
     have hf:=bP.out a;have bY:=hid (qcA r aR);have bl:=hid ha;rw[show yB r (n*2+c) 0=yB r a 0 by rw[ha]];obtain⟨ln,aJ⟩:=Ex ((r.getD a []).length);rw[aJ]at aC aB hf;have cy:(ln:Int)≤4194305:=by omega
     have ab:=hid aC;have al:=hid aJ;have ad:=hid o;have U:=hid J;clear aC o J bv ha aJ hf;go_wp2_with fail
     go_loopw [34,2] (fun i k V=> ∃j:Nat,i= .int .i64 (j:Nat)∧j≤ln∧k= .int .u8 ((yB r a j:Nat):Int)∧SpS B1 B2 w (.slice (some ⟨Z,0,none⟩) m uc) m xs r DS a j V∧Fr B1 B2 W V) (fun i _ _=>ln - (intOf i).toNat)
     case atStart=>exact⟨0,rfl,Nat.zero_le _,rfl,ad.out,U.out⟩
     case round=>
      clear ad U aB bK;obtain⟨j,rfl,hj,rfl,o,J⟩:=hrel;by_cases aW:j<ln
      case pos=>
       have cv:(j:Int)<(ln:Int):=by omega
       obtain⟨G,cL,eL,cJ,ap,⟨vs,aF⟩,aZ,aw⟩:=o.get aR (by rw[al.out];exact aW);obtain⟨bf,bS⟩:=bI.out a j (by rw[al.out];exact aW);have cq:=ci.out a G (by rw[eL];rfl);have a4:=bZ.out a j;rw[ab.out,al.out]at eL;simp only[Value.slice.injEq,true_and]at eL;obtain⟨rfl,rfl⟩:=eL;generalize qK (r.getD a []) j=z at*;obtain⟨dv,am⟩:=Ex (dgV DS a j);rw[am]at aZ aw a4;obtain⟨gD,cD,cu,rfl,cE,aI, -, -, -⟩:=aw.open (by omega);have cw:=a4 gD rfl;have ar:G≠gD:=fun e=>by
        obtain⟨c1,ae⟩:=Qh aF G (by rw[ab.out];rfl);rw[e,aI]at ae;simp only[Option.some.injEq,Obj.cells.injEq]at ae;exact absurd ae.2.1 (by decide)
       obtain⟨K,hK⟩:=Ex (yB r a j);have cR:K<256:=by rw[←hK];exact qd7 _ _ _
       have cP:(K:Int)<256:=by omega
       have ch:=hid (show yB r a (j+1)=(K+1)%256 by rw[qbB,hK]);rw[hK];have HK:=hid hK;have ad:=hid o;have U:=hid J;obtain⟨nz,a8⟩:=Ex z.length;rw[a8]at aZ bf bS am aw;have bi:=hid am;have ca:=hid aw;have cf:=hid aZ;have ce:=hid a8;have cA:(nz:Int)≤64:=by omega
       have cM:=hid aF;have bX:=hid (Qh aF G (by rw[ab.out];rfl));obtain⟨V,rfl⟩: ∃V,V=wr:=⟨_,rfl⟩;clear o J aw am hK a8 aF a4 aI;go_wp2_with fail
       go_loopw [42] (fun i X=> ∃(x:Nat) (Y:List Int),i= .int .i64 (x:Nat)∧x≤nz∧Y.length=nz∧(1≤x→qr Y 0=(K:Nat))∧OwnB B1 X (.slice (some ⟨gD,0,none⟩) nz cD) Y∧Spare (fun q=>q≠gD) V X) (fun i _=>nz - (intOf i).toNat)
       case atStart=>exact⟨0,z,rfl,Nat.zero_le _,ce.out,(fun h=>by omega),ca.out,Spare.refl _ _⟩
       case round=>
        obtain⟨x,Y,rfl,hx,aG,aA,ho,o⟩:=hrel;have b6:wr.cell? ⟨G,j,none⟩=some (.slice (some ⟨gD,0,none⟩) nz cD):=(World.cell?_of_block (a:=⟨G,j,none⟩) (o.block G ap ar)).trans cf.out;have bD:G<wr.heap.size:=Nat.lt_of_lt_of_le ap o.size;obtain⟨g',co,cx,e',cH,aE,bO,bN,aj⟩:=ho.open (by omega);simp only[Value.slice.injEq,Option.some.injEq,Addr.mk.injEq,and_true,true_and]at e';obtain⟨rfl, -,rfl⟩:=e';by_cases aS:x<nz
        case pos=>
         have cz:(x:Int)<(nz:Int):=by omega
         have c0:=aj x (by omega);have f0:=frozen_of_row wr gD x _ _ aE;have g0:gD<wr.heap.size:=(Ai aE).1;have HO:=hid ho;have I:=hid o;have b4:=hid aA;have ah:=hid aG;clear aj ho o aA aG aE;go_wp2_with fail
         have h9:=OwnB.set (ys:=Y) (i:=x) (z:=(K:Nat)) (by rw[ah.out];exact HO.out) (by rw[ah.out];exact aS) ⟨by omega,by omega⟩;rw[List.length_set,ah.out]at h9;refine⟨⟨x+1,Y.set x K,by go_num,by omega,by rw[List.length_set];exact ah.out,fun _=>?_,h9,I.out.trans (T:=fun q=>q≠gD) ⟨rfl,rfl,rfl,by simp[World.setCell],fun k _ hk=>heap_setCell_other _ _ _ _ hk⟩ (fun _ _ h=>h)⟩,by simp[intOf];omega⟩;unfold qr;rw[QD _ _ _ _ _ (by rw[ah.out];exact aS)];by_cases e0:x=0
         ·rw[if_pos e0]
         ·rw[if_neg e0];exact b4.out (by omega)
        obtain rfl:x=nz:=by omega
        have HO:=hid (show OwnB B1 wr (.slice (some ⟨gD,0,none⟩) x cD) Y from ho);have I:=hid o;have bn:=aA bf;have bW:=hid bn;have ah:=hid aG;have bQ:B1≤wr.heap.size:=by omega
        have bA:0<Y.length:=by omega
        have bF:Y.length≤70368744177000:=by omega
        have b7:(0:Int)≤(K:Int)∧(K:Int)≤255:=by omega
        have b0:=hid (show ∃cl,wr.heap[G]? =some (.cells cl 24 (0,0)) from by
         obtain⟨cl,ax⟩:=bX.out;exact⟨cl,(o.block G ap ar).trans ax⟩)
        clear ho o aA bn aG aj bO bN aE;go_wp2_with (at_builtin;refine qcP rfl _ _ rfl rfl HO.out bA (K:Int) b7 _ rfl bF bQ ?_;intro v' w' aP az aT;obtain⟨an,ao,e9, -, -⟩:=aP.hold.slice;subst e9;obtain⟨cl,ax⟩:=b0.out;have ai:w'.heap[G]? =some (.cells cl 24 (0,0)):=(az.block G bD (fun e=>ar (Option.some.inj e).symm)).trans ax;have c9:w'.cell? ⟨G,j,none⟩=some (.slice (some ⟨gD,0,none⟩) x cD):=(World.cell?_of_block (a:=⟨G,j,none⟩) (ai.trans ax.symm)).trans b6;have f9:=frozen_of_row w' G j _ _ ai;have s9:G<w'.heap.size:=(Ai ai).1;have bj:=hid aP;have O:=hid az;have bJ:=hid aT;have bE:=hid ai;clear aP az aT ax ai)
        have bp: ∀k,k≠G→(w'.setCell ⟨G,j,none⟩ (.slice an (Y++[(K:Int)]).length ao)).heap[k]? =w'.heap[k]? :=fun k hk=>heap_setCell_other _ _ _ _ hk
        have cd:=bj.out.stay (W':=w'.setCell ⟨G,j,none⟩ (.slice an (Y++[(K:Int)]).length ao)) (fun g hg=>bp g (fun e=>by
         obtain⟨c1,ae⟩:=Zy bj.out g hg;rw[e,bE.out]at ae;simp only[Option.some.injEq,Obj.cells.injEq]at ae;exact absurd ae.2.1 (by decide)))
        have cO:wr.heap.size≤w'.heap.size:=O.out.size;have cC:V.heap.size≤wr.heap.size:=I.out.size;have aK: ∀g,g<V.heap.size→g≠gD→g≠G→(w'.setCell ⟨G,j,none⟩ (.slice an (Y++[(K:Int)]).length ao)).heap[g]? =V.heap[g]? :=fun g h1 h2 h3=>
         (bp g h3).trans ((O.out.block g (by omega) (fun e=>h2 (Option.some.inj e).symm)).trans (I.out.block g h1 h2))
        have bs:=ad.out.mark (W':=w'.setCell ⟨G,j,none⟩ (.slice an (Y++[(K:Int)]).length ao)) (v':= .slice an (Y++[(K:Int)]).length ao) (z':=Y++[(K:Int)]) aR (by rw[al.out];exact aW) (fun cI bM=>by
          have h1:=qF (W':=w') bM (fun g hg=>by
           rw[ab.out]at hg;obtain rfl:G=g:=Option.some.inj hg;exact(O.out.block G (by omega) (fun e=>ar (Option.some.inj e).symm)).trans (I.out.block G ap ar))
          rw[ab.out,al.out]at h1⊢;exact(World.ownsRow.stored h1 j _).1) cd ⟨by simp,by rw[List.length_append,List.length_singleton,ah.out];omega,by
          rw[HK.out];unfold qr;rw[Lg,List.getElem?_append_left bA,←Lg];exact bW.out,by
          rw[HK.out];unfold qr;rw[List.length_append,List.length_singleton,Nat.add_sub_cancel,Lg,List.getElem?_append_right Nl,Nat.sub_self];rfl⟩ (fun g h1 h2 h3=>aK g h1 (fun e=>h2 (by rw[bi.out,e];rfl)) (fun e=>h3 (by rw[ab.out,e];rfl))) (by
          rw[bi.out];rcases bJ.out with h|h
          ·exact .inl h
          ·exact .inr fun g hg=>by have:=h g hg;omega) ⟨O.out.os.trans I.out.os,O.out.tape.trans I.out.tape,O.out.output.trans I.out.output,by simp[World.setCell];omega,fun k h1 h2=>aK k h1 (by omega) (by omega)⟩
        have bw:Fr B1 B2 V (w'.setCell ⟨G,j,none⟩ (.slice an (Y++[(K:Int)]).length ao)):=⟨O.out.os.trans I.out.os,O.out.tape.trans I.out.tape,O.out.output.trans I.out.output,by simp[World.setCell];omega,fun k h1 h2=>aK k h1 (by omega) (by omega)⟩;have bT:(Y++[(K:Int)]).length=Y.length+1:=by rw[List.length_append,List.length_singleton]
        rw[bT]at bs bw;refine⟨⟨j+1,by go_num,by omega,?_,bs,U.out.trans bw⟩,by simp[intOf];omega⟩;rw[ch.out];simp
      obtain rfl:j=ln:=by omega
      have aH:=hid (SpS.row (by rw[al.out];exact o));have U:=hid J;clear o J;go_wp2_with fail
      refine⟨⟨c+1,by go_num,by omega,?_,?_,U.out⟩,by simp[intOf];omega⟩
      ·rw[show n*2+(c+1)=a+1 by have:=bl.out;omega,bY.out,al.out]
      ·rw[show n*2+(c+1)=a+1 by have:=bl.out;omega];exact aH.out
    obtain rfl:c=2:=by omega
    have aH:=hid o;have U:=hid (b8.out.trans J);clear o J;go_wp2_with fail
    refine⟨⟨n+1,by go_num,by omega,?_,?_,U.out⟩,by simp[intOf];omega⟩
    ·rw[show(n+1)*2=n*2+2 by omega]
    ·rw[show(n+1)*2=n*2+2 by omega];exact aH.out
  obtain rfl:n=m:=by omega
  have ck:=hid o;clear o;go_wp2
  exact bodyPost_end (results_none rfl _ _ _) rfl ⟨rfl,ck.out⟩
theorem PairS.stay {E a:Nat}{W W':World}{xs:List Value}{I:Yj}(h:PairS E W xs a I)(G: ∀g,E≤g→g<W.heap.size→W'.heap[g]? =W.heap[g]?):PairS E W' xs a I:=by
 obtain⟨⟨d1,D⟩,⟨d2,r⟩⟩:=h;exact⟨⟨d1,qF D.1 fun g o=>G g (Qy D.1 g o) (qm D.1 g o),fun j q=>(D.2 j q).stay fun g o=>G g (zm (D.2 j q) g o).1 (zm (D.2 j q) g o).2⟩,
  ⟨d2,qF r.1 fun g o=>G g (Qy r.1 g o) (qm r.1 g o),fun j q=>(r.2 j q).stay fun g o=>G g (zm (r.2 j q) g o).1 (zm (r.2 j q) g o).2⟩⟩
theorem SpS.seen {B1 B2 m a j:Nat}{w W:World}{u:Value}{xs:List Value}{o:List (List (List Int))}{DS:List (List Value)}(h:SpS B1 B2 w u m xs o DS o.length 0 W)(ha:a<o.length)(U:j<(o.getD a []).length):
  ∃r D q n J,xs.getD a undef= .slice (some ⟨r,0,none⟩) (o.getD a []).length D∧r<W.heap.size∧W.cell? ⟨r,j,none⟩=some (.slice (some ⟨q,0,none⟩) n J)∧1≤n∧n≤65∧q<W.heap.size∧W.cell? ⟨q,0,none⟩=some (.int .u8 (yB o a j:Nat))∧W.cell? ⟨q,n - 1,none⟩=some (.int .u8 (yB o a j:Nat)):=by
 obtain⟨G,V,h1,h2,X,h4,h5,h6,h7⟩:=h;have Y:j<(G.getD a []).length:=by rw[X];exact U
 have I:=h1.each a (by omega);obtain⟨r,D,e,g1,g2,Z⟩:=z7 I.1 (by omega);rw[X]at e;have hl:=I.len;have hd:=I.2 j Y;obtain⟨m1,m2,m3,m4⟩:=h4 a j U (.inl ha);generalize qK (G.getD a []) j=z at*;obtain⟨q,J,cu,e2, -,h9, -, -,O⟩:=hd.open (by omega);refine⟨r,D,q,z.length,J,e,g2,?_,m1,m2,(Ai h9).1,by rw[←m3];exact O 0 (by omega),by rw[←m4];exact O _ (by omega)⟩;refine Z j _ ?_;rw[←e2,Lg (l:=V.getD a []),List.getElem?_eq_getElem (by omega)];rfl
theorem JV {t:TreeV}{n o:Nat}(q:t.spotE n 0 o=0):t.validE=0:=by
 unfold TreeV.spotE at q;by_cases h:t.err n=0
 ·exact Q0 h
 ·rw[if_pos h]at q;exact absurd q h
theorem qeL (ss:List Yj)(h:qf0 1048576 ss):qbV ss:=⟨h.1,fun s o=>⟨⟨(h.2 s o).1.1,fun d q=>((h.2 s o).1.2 d q).1⟩,⟨(h.2 s o).2.1,fun d q=>((h.2 s o).2.2 d q).1⟩⟩⟩
theorem qe8 (t:TreeV)(q z1 z2 zs:List Int)(X:0≤t.l∧t.l≤4294967295)(hn:zs.length≤1048576)(o:Nat)(aa:(o:Int)≤18446744073709551615):
  ∃(T L M:Nat) (Z:List (List (List Int))) (SS:List Yj),Z.length=M*2∧M≤255∧SS.length=M∧qbV SS∧(∀a i,i<(Z.getD a []).length→1≤(qK (Z.getD a []) i).length∧(qK (Z.getD a []) i).length≤64)∧(∀a,(Z.getD a []).length≤4194305)∧
   (∀(B:Nat) (W:World) (u:Value) (xs:List Value) (DS:List (List Value)),W.ownsRow B 69 2 u M xs→ListsV B W xs Z DS→StepsAt W u SS)∧
   (∀(W:World) (v:Value),TreeH W t q z1 z2→Hold W v zs→Calls Tryz.prog 28 #[t.val,v,.int .u64 o] W fun r w'=> ∃u xs DS,r= .returned (.tuple #[YB T L u,.int .i64 (t.spotE zs.length 0 o)])∧w'.ownsRow W.heap.size 69 2 u M xs∧ListsV W.heap.size w' xs Z DS∧Below W.heap.size W w')∧
   (∀(W:World) (v:Value),TreeH W t q z1 z2→Hold W v zs→Calls Tryz.prog 29 #[t.val,v,.int .u64 o] W fun r w'=> ∃u xs,r= .returned (.tuple #[YB T L u,.int .i64 (t.spotE zs.length 0 o)])∧w'.ownsRow W.heap.size 69 2 u M xs∧(∀a,a<M→PairS W.heap.size w' xs a (Yf SS a))∧Below W.heap.size W w'):=by
 by_cases O:t.spotE zs.length 0 o=0
 case neg=>
  refine⟨0,0,0,[],[],rfl,by omega,rfl,⟨Nat.zero_le _,fun s hs=>by cases hs⟩,fun a i V=>by simp at V,fun a=>by simp,fun B W u xs DS hu _=>J1 (xs:=xs) (E:=0) rfl hu (fun a ha=>absurd ha (Nat.not_lt_zero a)),fun W v U Y=>?_,fun W v U Y=>?_⟩
  ·obtain⟨va,vc,rfl, -, -⟩:=id Y.slice;refine(qgk t X zs.length o (by omega) O va vc W).mono ?_;rintro r w' ⟨rfl,hb⟩;exact⟨_,[],[],rfl,Wo _ _ _ _,ListsV.nil _ _,hb⟩
  ·obtain⟨va,vc,rfl, -, -⟩:=id Y.slice;refine(qc0 t X zs.length o (by omega) O va vc W).mono ?_;rintro r w' ⟨rfl,hb⟩;exact⟨_,[],rfl,Wo _ _ _ _,fun a ha=>by omega,hb⟩
 case pos=>
  have G:=JV O;have F:=YN X (show(zs.length:Int)≤18446744073709551615 by omega) O;obtain⟨m,hm⟩:=Ex ((t.rowsOf zs.length).length - 1);have ac:=qaT G X q z1 z2 zs hn O hm;have ah:m≤255:=by have:=F.most;omega
  have aj:=TreeV.llZ_length t q z1 z2 zs o m;have ab:=Q1 t q z1 z2 zs o m;have af: ∀a,a<m*2→ ∃k,k<m∧((t.llZ q z1 z2 zs o m).getD a []=(Yf (t.stepsZ q z1 z2 zs o m) k).1∨(t.llZ q z1 z2 zs o m).getD a []=(Yf (t.stepsZ q z1 z2 zs o m) k).2):=fun a ha=>by
   have D:a/2<m:=by omega
   have I:=ZI t q z1 z2 zs o m (a/2) D;refine⟨a/2,D,?_⟩;rw[yM _ _ _ _ _ _ D];rcases Nat.mod_two_eq_zero_or_one a with h|h
   ·rw[show a/2*2=a by omega]at I;exact .inl I.1
   ·rw[show a/2*2+1=a by omega]at I;exact .inr I.2
  have ae:=(qo G);have ag: ∀k,k<m→ ∀d∈(Yf (t.stepsZ q z1 z2 zs o m) k).1++(Yf (t.stepsZ q z1 z2 zs o m) k).2,1≤d.length∧d.length≤64:=fun k D d J=>by
   rw[yM _ _ _ _ _ _ D]at J;have ai:d∈t.lvlZ q z1 z2 (t.leafZ q z1 z2 zs) k:=by
    unfold TreeV.stepZ at J;rcases List.mem_append.1 J with J|J
    ·exact List.mem_of_mem_drop (List.mem_of_mem_take J)
    ·exact List.mem_of_mem_drop (List.mem_of_mem_take J)
   have:=(jt G X q z1 z2 zs (by omega) hm D d ai).1
   have h1:=ae.2.2.2.1;have I:=ae.2.2.2.2.1;have h3:zw t.k≤64:=by unfold zw;split;decide;split<;>decide
   omega
  have ad: ∀a,(t.llZ q z1 z2 zs o m).getD a []=[]∨a<m*2:=fun a=>by
   by_cases h:a<m*2
   ·exact .inr h
   ·left;rw[Lg,List.getElem?_eq_none (by omega)];rfl
  refine⟨zs.length,o,m,t.llZ q z1 z2 zs o m,t.stepsZ q z1 z2 zs o m,aj,ah,ab,qeL _ ac.2,fun a i V=>?_,fun a=>?_,fun B W u xs DS hu J=>qg0 hu J,fun W v U Y=>?_,fun W v U Y=>?_⟩
  ·rcases ad a with h|h
   ·rw[h]at V;simp at V
   ·obtain⟨k,D,e|e⟩:=af a h
    ·rw[e]at V⊢;exact ag k D _ (List.mem_append_left _ (qd3 V))
    ·rw[e]at V⊢;exact ag k D _ (List.mem_append_right _ (qd3 V))
  ·rcases ad a with h|h
   ·rw[h];simp
   ·obtain⟨k,D,e|e⟩:=af a h
    ·rw[e];have:=(ac.2.2 _ (qby (by rw[ab];exact D))).1.1;omega
    ·rw[e];have:=(ac.2.2 _ (qby (by rw[ab];exact D))).2.1;omega
  ·rw[O];refine(qho t q z1 z2 zs o aa v W ⟨G,X,U.k,U.s,U.p⟩ Y (by omega) O).mono ?_;rintro r w' ⟨u,xs,DS,rfl,⟨h1,I⟩,h3⟩;rw[hm]at h1 I;exact⟨u,xs,DS,rfl,h1,I,h3⟩
  ·rw[O];refine(qdP t q z1 z2 zs o aa v W ⟨G,X,U.k,U.s,U.p⟩ Y (by omega) O).mono ?_;rintro r w' ⟨u,xs,rfl,h1,I,h3⟩;rw[hm]at h1 I;exact⟨u,xs,rfl,h1,I,h3⟩
theorem SpS.list {B1 B2 m a j b:Nat}{w W:World}{u:Value}{xs:List Value}{r:List (List (List Int))}{I:List (List Value)}(h:SpS B1 B2 w u m xs r I a j W)(U:b<r.length): ∃q o,xs.getD b undef= .slice q (r.getD b []).length o:=by
 obtain⟨O,J,G,V,D, -⟩:=h;obtain⟨q,o,e⟩:=ym (G.each b (by omega)).1;exact⟨q,o,by rw[e,D]⟩
theorem Zn {P:Program}{ops:Array Oper}{Q:Exit→Act→World→Prop}{a:Act}{w:World}{o:List Oper}{d:Option Tmp}{G:Op}{q:TypeId}{r:String}{D:Array Edge}{g:Nat×Bool}
  (I:Region.wanted ⟨d,G,q,r,D,some g⟩ (yielded ops a.tmps)=true) (h:wpList P ops Q (⟨d,G,q,r,D,none⟩::o) a w):wpList P ops Q (⟨d,G,q,r,D,some g⟩::o) a w:=by
 unfold wpList at h⊢;rw[if_pos I];rw[if_pos (by rfl)]at h;exact h
theorem qaP (t:TreeV)(kz z1 z2 zs:List Int)(ac:Nat)(cc:(ac:Int)≤18446744073709551615)(hl:0≤t.l∧t.l≤4294967295)(v:Value)(w:World)(h:TreeH w t kz z1 z2)(hv:Hold w v zs)(hn:zs.length≤1048576):
  Calls Tryz.prog 4 #[t.val,v,.int .u64 ac] w (qh2 w):=by
 obtain⟨r,ao⟩:=Ex w.heap.size;obtain⟨T,L,M,X,SS,bs,hM,db,cH,bv,aM,co,cI,cW⟩:=qe8 t kz z1 z2 zs hl hn ac cc;have cN:=hid (fun(W:World) (J:Below r w W) (x:Value) (hx:Hold W x zs)=>cI W x (h.below (ao▸J)) hx);have d6:=hid (fun(W:World) (J:Below r w W) (x:Value) (hx:Hold W x zs)=>cW W x (h.below (ao▸J)) hx);have dW:=hid (fun(W:World)=>qbf t hl zs.length (by omega) ac W);have dQ:=hid (fun(W:World)=>qdN t hl zs.length (by omega) ac W);have d4:=hid (qen zs v);have HV:=hid (fun(W:World) (J:Below r w W)=>hv.below (ao▸J));have cA:=hid (fun(W:World) (x y:Value) (hx:StepsAt W x SS) (hy:StepsAt W y SS)=>qgR T L SS x y W hx hy cH);have eb:=hid (fun(W:World) (x y:Value) (hx:Hold W x zs) (hy:Hold W y zs)=>qhD zs zs x y W hx hy);have dZ:=hid (fun(B1 B2:Nat) (u:Value) (xs:List Value) (DS:List (List Value)) (W:World) (h1:W.ownsRow B1 69 2 u M xs) (h2:ListsV B1 W xs X DS) (h3:B2≤W.heap.size) (h4:B1≤W.heap.size) (h5: ∀a g,(xs.getD a undef).ownBlock=some g→g<B2) (h6: ∀a i g,(dgV DS a i).ownBlock=some g→g<B2) (h7: ∀g,u.ownBlock=some g→g<B2)=>qgc T L M B1 B2 u xs X DS W h1 h2 hM bs h3 h4 h5 h6 h7 bv aM);have cG:=hid co;have bu:=hid bs;have cj:=hid db;have dm:=hid aM;have ez:IntKind.u64.wrap (zs.length:Int)=(zs.length:Int):=u64_wrap_id _ (by omega) (by omega);have ep:=hid (show Hold w v zs from hv);have ex:(M:Int)≤255:=by omega
 obtain⟨va,vc,rfl, -, -⟩:=id hv.slice;generalize t.spotE zs.length 0 ac=ee at*;generalize t.sizeR zs.length ac=sr at*;have er:(ee != ee)=false:=by simp
 have eC:(sr != sr)=false:=by simp
 clear cI cW co bv aM cH db bs h hv hl;unfold TreeV.val YB at*;go_enter Tryz.func4,Tryz.ntmps4
 go_upto_region 1 with(fail)
 refine qn ?_;intro wA br;have b5:wA.heap[r]? =some (.cells #[.int .i64 t.k,.int .i64 t.d,.int .i64 t.f,.int .i64 t.p,.int .u32 t.l,.int .i64 t.i,.slice t.ka t.kl t.kc,.slice t.sa t.sl t.sc,.slice t.pa t.pl t.pc] 26 (0,0)):=by rw[br];exact qe _ _ ao.symm
 have av:Below r w wA:=by rw[br,←ao];exact Br.alloc Nl _
 have bO:=hid av;have dN:r<wA.heap.size:=(Ai b5).1;clear br;go_wp2_with fail
 refine(d4.out wA (HV.out wA bO.out) (by omega)).mono ?_;rintro e w1 ⟨d,rfl,hd,aO⟩;have b7:=qg b5 aO;have bM:=hid (bO.out.trans (aO.mono (show r≤wA.heap.size by omega)));have dL:r<w1.heap.size:=by have:=aO.size;omega
 have bK:=hid (hd.le (show r≤wA.heap.size by omega));have bT:=hid (fun g o=>(zm hd g o).2);obtain⟨da,dc,rfl, -, -⟩:=id hd.hold.slice;clear hd aO b5 bO av dN;clear wA;go_wp2_with ((with_reducible show wpList _ _ _ (Oper.mk _ (Op.load 26 _) _ _ _ _::_) _ _);refine wpList_load_row rfl 26 _ rfl r rfl _ _ _ _ b7 Tryz.underlying26 rfl (by kernel_rfl) ?_)
 refine(cN.out w1 bM.out _ bK.out.hold).mono ?_;rintro e w2 ⟨u,xs,DS,rfl,hu,ax,I⟩;obtain⟨ua,uc,rfl⟩:=ym hu;obtain⟨B1,cy⟩:=Ex w1.heap.size;obtain⟨U,aB⟩:=Ex w2.heap.size;rw[cy]at hu ax;have cZ:=qg b7 I;have aw:=hid (bM.out.trans (I.mono (show r≤w1.heap.size by omega)));have ay:=hid (bK.out.kb (KB.of_below I (Nat.zero_le _)));have bW:r<w2.heap.size:=by have:=I.size;omega
 have b8:=hid hu;have ck:=hid ax;have dS:=hid (fun a g o=>aB▸(ax.xlt a g o).2);have ec:=hid (fun a i g o=>aB▸(ax.dlt a i g o).2);have dJ:=hid (fun g o=>aB▸qm hu g o);have eg:B1≤U:=by have:=I.size;omega
 have dq:r<B1:=by omega
 have d7:=hid (show ∀g,(Value.slice da zs.length dc).ownBlock=some g→g<B1 from fun g o=>by have:=bT.out g o;omega);clear bT;clear hu ax I b7 bM bK dL cy;clear w1;go_upto_region 3 with(fail)
 refine qn ?_;intro w3 bo;have aJ:w3.heap[U]? =some (.cells #[.int .u64 T,.int .u64 L,.slice ua M uc] 55 (0,0)):=by rw[bo];exact qe _ _ aB.symm
 have am:Below w2.heap.size w2 w3:=by rw[bo];exact Br.alloc Nl _
 have a4:=qg cZ am;have aR:=hid (aw.out.trans (am.mono (show r≤w2.heap.size by omega)));have cV:=hid (ay.out.kb (KB.of_below am (Nat.zero_le _)));have bV:=hid (qF b8.out (fun g o=>am.block g (qm b8.out g o)));have di:=hid (ck.out.below am);have d8:r<w3.heap.size:=by have:=am.size;omega
 clear bo am cZ aw ay b8 ck bW aB;have dl:U<w3.heap.size:=(Ai aJ).1;clear w2;go_wp2_with ((with_reducible show wpList _ _ _ (Oper.mk _ (Op.load 26 _) _ _ _ _::_) _ _);refine wpList_load_row rfl 26 _ rfl r rfl _ _ _ _ a4 Tryz.underlying26 rfl (by kernel_rfl) ?_)
 refine(d6.out w3 aR.out _ (HV.out w3 aR.out)).mono ?_;rintro e w4 ⟨u2,ys,rfl,aQ,bm,ad⟩;obtain⟨qa,qc,rfl⟩:=ym aQ;obtain⟨B3,cx⟩:=Ex w3.heap.size;obtain⟨bQ,cg⟩:=Ex w4.heap.size;rw[cx]at aQ bm;have ci:=qg a4 ad;have bY:=qg aJ ad;have cO:=hid (aR.out.trans (ad.mono (show r≤w3.heap.size by omega)));have cl:=hid (cV.out.kb (KB.of_below ad (Nat.zero_le _)));have bf:=hid (qF bV.out (fun g o=>ad.block g (qm bV.out g o)));have cm:=hid (di.out.below ad);have d0:r<w4.heap.size:=by have:=ad.size;omega
 have ba:=hid aQ;have cw:=hid bm;have ek:U<B3:=by omega
 have eh:B3≤bQ:=by have:=ad.size;omega
 clear aQ bm ad a4 aJ aR cV bV di d8 cx dl;clear w3;go_upto_region 4 with(fail)
 refine qn ?_;intro w5 ag;have ai:w5.heap[bQ]? =some (.cells #[.int .u64 T,.int .u64 L,.slice qa M qc] 55 (0,0)):=by rw[ag];exact qe _ _ cg.symm
 have D:Below w4.heap.size w4 w5:=by rw[ag];exact Br.alloc Nl _
 have bl:=qg ci D;have bZ:=qg bY D;have aE:=hid (cO.out.trans (D.mono (show r≤w4.heap.size by omega)));have aq:=hid (cl.out.kb (KB.of_below D (Nat.zero_le _)));have a7:=hid (qF bf.out (fun g o=>D.block g (qm bf.out g o)));have cu:=hid (cm.out.below D);have bE:=hid (qF ba.out (fun g o=>D.block g (qm ba.out g o)));have c5:=hid (fun a O=>(cw.out a O).below D);have c6:r<w5.heap.size:=by have:=D.size;omega
 clear ag D ci bY cO cl bf cm ba cw d0 cg;clear w4;go_wp2_with ((with_reducible show wpList _ _ _ (Oper.mk _ (Op.load 26 _) _ _ _ _::_) _ _);refine wpList_load_row rfl 26 _ rfl r rfl _ _ _ _ bl Tryz.underlying26 rfl (by kernel_rfl) ?_)
 refine(dW.out w5).mono ?_;rintro e w6 ⟨rfl,G⟩;have b6:=qg bl G;have bx:=qg bZ G;have bJ:=qg ai G;have an:=hid (aE.out.trans (G.mono (show r≤w5.heap.size by omega)));have ar:=hid (aq.out.kb (KB.of_below G (Nat.zero_le _)));have bj:=hid (qF a7.out (fun g o=>G.block g (qm a7.out g o)));have cC:=hid (cu.out.below G);have bD:=hid (qF bE.out (fun g o=>G.block g (qm bE.out g o)));have c9:=hid (fun a O=>(c5.out a O).below G);have cX:r<w6.heap.size:=by have:=G.size;omega
 clear G bl bZ ai aE aq a7 cu bE c5 c6;clear w5;go_wp2_with ((with_reducible show wpList _ _ _ (Oper.mk _ (Op.load 26 _) _ _ _ _::_) _ _);refine wpList_load_row rfl 26 _ rfl r rfl _ _ _ _ b6 Tryz.underlying26 rfl (by kernel_rfl) ?_)
 refine(dQ.out w6).mono ?_;rintro e w7 ⟨rfl,aa⟩;have df:=qg b6 aa;have aN:=qg bx aa;have aK:=qg bJ aa;have aY:=hid (an.out.trans (aa.mono (show r≤w6.heap.size by omega)));have cz:=hid (ar.out.kb (KB.of_below aa (Nat.zero_le _)));have aT:=hid (qF bj.out (fun g o=>aa.block g (qm bj.out g o)));have bt:=hid (cC.out.below aa);have aP:=hid (qF bD.out (fun g o=>aa.block g (qm bD.out g o)));have a6:=hid (fun a O=>(c9.out a O).below aa);have dI:r<w7.heap.size:=by have:=aa.size;omega
 clear aa b6 bx bJ an ar bj cC bD c9 cX;clear w6;go_wp2_with (first|(refine Zn (by rfl) ?_)|((with_reducible show wpList _ _ _ (Oper.mk (some 61) (Op.load 55 _) _ _ _ _::_) _ _);refine wpList_load_row rfl 55 _ rfl U rfl _ _ _ _ aN Tryz.underlying55 rfl (by kernel_rfl) ?_)|((with_reducible show wpList _ _ _ (Oper.mk (some 62) (Op.load 55 _) _ _ _ _::_) _ _);refine wpList_load_row rfl 55 _ rfl bQ rfl _ _ _ _ aK Tryz.underlying55 rfl (by kernel_rfl) ?_))
 refine(cA.out w7 _ _ (cG.out _ _ _ _ _ aT.out bt.out) (J1 cj.out aP.out a6.out)).mono ?_;rintro e w8 ⟨rfl,Z⟩;have cT:=qg df Z;have bq:=qg aN Z;have bh:=qg aK Z;have cB:=hid (aY.out.trans (Z.mono (show r≤w7.heap.size by omega)));have c8:=hid (cz.out.kb (KB.of_below Z (Nat.zero_le _)));have bX:=hid (qF aT.out (fun g o=>Z.block g (qm aT.out g o)));have c0:=hid (bt.out.below Z);have bG:=hid (qF aP.out (fun g o=>Z.block g (qm aP.out g o)));have cM:=hid (fun a O=>(a6.out a O).below Z);have dF:r<w8.heap.size:=by have:=Z.size;omega
 clear Z df aN aK aY cz aT bt aP a6 dI;clear w7;go_wp2_with (first|(refine Zn (by rfl) ?_))
 refine(qb9 w8).mono ?_;rintro e w9 ⟨rfl,ab⟩;have cY:=qg cT ab;have aH:=qg bq ab;have aG:=qg bh ab;have ce:=hid (cB.out.trans (ab.mono (show r≤w8.heap.size by omega)));have bp:=hid (c8.out.kb (KB.of_below ab (Nat.zero_le _)));have cq:=hid (qF bX.out (fun g o=>ab.block g (qm bX.out g o)));have cJ:=hid (c0.out.below ab);have aZ:=hid (qF bG.out (fun g o=>ab.block g (qm bG.out g o)));have cU:=hid (fun a O=>(cM.out a O).below ab);have dV:r<w9.heap.size:=by have:=ab.size;omega
 clear ab cT bq bh cB c8 bX c0 bG cM dF;clear w8;go_wp2_with (((with_reducible show wpList _ _ _ (Oper.mk (some 80) (Op.load 55 _) _ _ _ _::_) _ _);refine wpList_load_row rfl 55 _ rfl U rfl _ _ _ _ aH Tryz.underlying55 rfl (by kernel_rfl) ?_))
 have dk:bQ<w9.heap.size:=(Ai aG).1;refine(dZ.out B1 U _ xs DS w9 cq.out cJ.out (by omega) (by omega) dS.out ec.out dJ.out).mono ?_;rintro e wS ⟨rfl,aC⟩;have ae:=aC.fr;have bN:=ae.row cY (.inl dq);have ap:=ae.row aH (.inr Nl);have a5:=ae.row aG (.inr (by omega));have d9:=hid (ce.out.trans ((ae.below (by omega)).mono (show r≤B1 by omega)));have cd:=hid (qF aZ.out (fun g o=>ae.block g (qm aZ.out g o) (.inr (by have:=Qy aZ.out g o;omega))));have dU:=hid (fun a O=>(cU.out a O).stay (fun g h1 h2=>ae.block g h2 (.inr (by omega))));have ea:=hid (bp.out.stay (fun g o=>ae.block g (zm bp.out g o).2 (.inl (by have:=d7.out g o;omega))));have ey:r<wS.heap.size:=(Ai bN).1;have bU:=aC;have aI:=hid aC;have aU:=hid (show SpS B1 U w9 (.slice ua M uc) M xs X DS X.length 0 wS by rw[bu.out];exact aC);clear aC ae cY aH aG ce bp cq cJ aZ cU dV dk;have aL:=bU.steps;have aS:xs.length=M*2:=aL.1;have dy:=hid aS;have a9:=hid aL;have eo:(M:Int)≤9223372036854775807:=by omega
 have de:wS.cell? ⟨U,2,none⟩=some (.slice ua M uc):=qd ap 2;have c4:=hid de;have dr:U<wS.heap.size:=(Ai ap).1;have dt:=hid ap;have du:=hid a5;have dz:=hid bN;clear bU aL aS ap a5 bN;go_wp2_with fail
 go_loopw [85,16] (fun i k W=> ∃n:Nat,i= .int .i64 (n:Nat)∧n≤M∧k= .int .u8 ((yB X (n*2) 0:Nat):Int)∧Below wS.heap.size wS W) (fun i _ _=>M - (intOf i).toNat)
 case atStart=>exact⟨0,rfl,Nat.zero_le _,by rw[Nat.zero_mul,qbA];rfl,Below.refl _ _⟩
 case round=>
  clear de;obtain⟨n,rfl,eA,rfl,J⟩:=hrel;have bi:=J.size;have q2:wr.cell? ⟨U,2,none⟩=some (.slice ua M uc):=(J.cell (p:=⟨U,2,none⟩) dr).trans c4.out;have cr:U<wr.heap.size:=by omega
  by_cases eu:n<M
  case pos=>
   have em:(n:Int)<(M:Int):=by omega
   obtain⟨gS,cS,e, -,cf,ca⟩:=z7 a9.out (by omega);simp only[Value.slice.injEq,true_and]at e;obtain⟨rfl,rfl⟩:=e;have dX:=bu.out;have aS:=dy.out;obtain⟨af,aj,e0⟩:=aI.out.list (b:=n*2) (by omega);obtain⟨ah,al,e1⟩:=aI.out.list (b:=n*2+1) (by omega);have s0:wr.cell? ⟨gS,n*2,none⟩=some (xs.getD (n*2) undef):=(J.cell (p:=⟨gS,n*2,none⟩) cf).trans (ca _ _ (by rw[Lg,List.getElem?_eq_getElem (by omega)];rfl));have s1:wr.cell? ⟨gS,n*2+1,none⟩=some (xs.getD (n*2+1) undef):=(J.cell (p:=⟨gS,n*2+1,none⟩) cf).trans (ca _ _ (by rw[Lg,List.getElem?_eq_getElem (by omega)];rfl));obtain⟨l0,bI⟩:=Ex ((X.getD (n*2) []).length);obtain⟨l1,b9⟩:=Ex ((X.getD (n*2+1) []).length);rw[bI]at e0;rw[b9]at e1;rw[e0]at s0;rw[e1]at s1;have a8:gS<wr.heap.size:=by omega
   have bz:=hid bI;have bk:=hid b9;have cQ:=hid s0;have dh:=hid s1;have aD:=hid q2;have cv:=hid e0;have cR:=hid e1;have HB:=hid J;clear ca J e0 e1 s0 s1 q2 bI b9 dX aS;go_upto_region 13 with(fail)
   refine qE (n:=15) (w0:=wr) (B:=wr.heap.size) [.v 88 (.pointer (some ⟨U,2,none⟩)),.v 89 (.slice (some ⟨gS,0,none⟩) M uc),.v 90 (.int .i64 (n:Nat)),.v 91 (.pointer (some ⟨gS,n*2,none⟩)),.v 92 (.pointer (some ⟨gS,n*2,none⟩)),.v 93 (.slice af l0 aj),.v 94 (.pointer (some ⟨U,2,none⟩)),.v 95 (.slice (some ⟨gS,0,none⟩) M uc),.v 96 (.int .i64 (n:Nat)),.v 97 (.pointer (some ⟨gS,n*2,none⟩)),.v 98 (.pointer (some ⟨gS,n*2+1,none⟩)),.v 99 (.slice ah l1 al),.p 100 (TwoB wr.heap.size (.slice af l0 aj) (.slice ah l1 al)),.v 101 (.int .i64 2),.v 102 (.int .i64 0)] (by exact⟨(fun _ _ _ h J=>TwoB.below h J),trivial⟩) Br.drew Nl ?_ ?_
   ·repeat' (with_reducible first|exact qz|refine qx ?_ ?_)
    all_goals try
     intro AA x W hA hW az Y DD K hK;have a1:=hA.2 8 (by decide);conv at a1=>rhs;whnf
     have a3:=hA.2 17 (by decide);conv at a3=>rhs;whnf
     have y0:W.cell? ⟨U,2,none⟩=some (.slice (some ⟨gS,0,none⟩) M uc):=(hW.cell (p:=⟨U,2,none⟩) cr).trans aD.out;have y1:W.cell? ⟨gS,n*2,none⟩=some (.slice af l0 aj):=(hW.cell (p:=⟨gS,n*2,none⟩) a8).trans cQ.out;have y2:W.cell? ⟨gS,n*2+1,none⟩=some (.slice ah l1 al):=(hW.cell (p:=⟨gS,n*2+1,none⟩) a8).trans dh.out;have y3:U<W.heap.size:=by omega
     have y4:gS<W.heap.size:=by omega
     simp only[QW,Q8]at DD;clear Y hA;go_simp
     exact hK _ _ BR rfl
    ·intro AA x W hA hW az Y _ K hK;have d5:=gv hA Y 5 93;have dP:=gv hA Y 11 99;clear Y hA;have ef:AA.tmps[93]?.getD undef= .slice af l0 aj:=by rw[←Lh];exact d5
     have en:AA.tmps[99]?.getD undef= .slice ah l1 al:=by rw[←Lh];exact dP
     go_simp
     exact hK _ _ (Br.alloc Nl _) ⟨_,rfl,az,Wn W _⟩
    ·intro AA x W hA hW az Y _ K hK;have cE:=gp hA Y 12 100;obtain⟨q,cE, -, -⟩:=cE;clear Y hA;go_simp
     exact hK _ _ BR rfl
   intro x W hW az dw;obtain⟨cP, -⟩:=dw;change TwoB wr.heap.size (.slice af l0 aj) (.slice ah l1 al) (x 100) W at cP
   obtain⟨gB,eB,dR,bg⟩:=cP;refine qw ?_;simp only[QF,Act.put,Ls,eB];have bd:=hid (HB.out.trans (hW.mono bi));have dH:=hid (show ∀c,c<2→ ∃xa xc,xs.getD (n*2+c) undef= .slice xa (X.getD (n*2+c) []).length xc∧ ∀V:World,V.heap[gB]? =some (.cells #[.slice af l0 aj,.slice ah l1 al] 67 (0,0))→V.cell? ⟨gB,c,none⟩=some (.slice xa (X.getD (n*2+c) []).length xc) from fun c hc=>by
    by_cases h0:c=0
    ·subst h0;exact⟨af,aj,by rw[Nat.add_zero,bz.out];exact cv.out,fun V hV=>by rw[Nat.add_zero,bz.out];exact qd hV 0⟩
    ·obtain rfl:c=1:=by omega
     exact⟨ah,al,by rw[bk.out];exact cR.out,fun V hV=>by rw[bk.out];exact qd hV 1⟩)
   have dG:=hid bg;have dx:gB<W.heap.size:=(Ai bg).1;have cK:wS.heap.size≤W.heap.size:=bd.out.size;clear bg eB dR hW az cQ dh aD cv cR HB bz bk;generalize x 100=es;go_wp2_with fail
   go_loopw [102,16] (fun l k V=> ∃c:Nat,l= .int .i64 (c:Nat)∧c≤2∧k= .int .u8 ((yB X (n*2+c) 0:Nat):Int)∧Below W.heap.size W V) (fun l _ _=>2 - (intOf l).toNat)
   case atStart=>exact⟨0,rfl,by omega,rfl,Below.refl _ _⟩
   case round=>
    obtain⟨c,rfl,hc,rfl,au⟩:=hrel;by_cases dD:c<2
    case pos=>
     have ei:(c:Int)<2:=by omega
     obtain⟨xa,xc,aW,dd⟩:=dH.out c dD;have aV:=dd wr ((au.block gB dx).trans dG.out);have dj:gB<wr.heap.size:=World.block_lt_of_cell? wr _ aV;obtain⟨a,O⟩:=Ex (n*2+c);rw[O]at aW aV;have cF:a<X.length:=by have:=bu.out;omega
     have hf:=dm.out a;have dY:=hid (qcA X cF);have dE:=hid O;rw[show yB X (n*2+c) 0=yB X a 0 by rw[O]];obtain⟨ln,bF⟩:=Ex ((X.getD a []).length);rw[bF]at aW aV hf;have el:(ln:Int)≤4194305:=by omega
     have dn:=hid aW;have bS:=hid bF;have aX:=hid au;clear aW au dd O bF hf;go_wp2_with fail
     go_loopw [108,16] (fun i k V=> ∃j:Nat,i= .int .i64 (j:Nat)∧j≤ln∧k= .int .u8 ((yB X a j:Nat):Int)∧Below W.heap.size W V) (fun i _ _=>ln - (intOf i).toNat)
     case atStart=>exact⟨0,rfl,Nat.zero_le _,rfl,aX.out⟩
     case round=>
      clear aX aV dj;obtain⟨j,rfl,hj,rfl,aF⟩:=hrel;have ak:=bd.out.trans (aF.mono cK);by_cases ed:j<ln
      case pos=>
       have ej:(j:Int)<(ln:Int):=by omega
       obtain⟨gL,cL,gD,nz,cD,eL,ch,ct,dB,dA,bn,bb,bR⟩:=aU.out.seen cF (by rw[bS.out];exact ed);rw[dn.out,bS.out]at eL;simp only[Value.slice.injEq,true_and]at eL;obtain⟨rfl,rfl⟩:=eL;obtain⟨K,hK⟩:=Ex (yB X a j);have ew:K<256:=by rw[←hK];exact qd7 _ _ _
       have dT:=hid (show yB X a (j+1)=(K+1)%256 by rw[qbB,hK]);rw[hK]at bb bR⊢;have c1:=(ak.cell (p:=⟨gL,j,none⟩) ch).trans ct;have c2:=(ak.cell (p:=⟨gD,0,none⟩) bn).trans bb;have c3:=(ak.cell (p:=⟨gD,nz - 1,none⟩) bn).trans bR;obtain⟨n1,rfl⟩: ∃n1,nz=n1+1:=⟨nz - 1,by omega⟩;rw[Nat.add_sub_cancel]at c3;have dp:gL<wr.heap.size:=by have:=ak.size;omega
       have dv:gD<wr.heap.size:=by have:=ak.size;omega
       have ev:(n1:Int)+1≤65:=by omega
       have aA:=hid aF;clear hK bb bR ct ak aF dB dA;go_upto_region 19 with(fail)
       go_quiet (fail)
       go_upto_region 21 with(fail)
       refine qn ?_;intro V hV;have dK:=hid (show Below W.heap.size W V by rw[hV];exact aA.out.trans ((below_draws _ _ _).mono aA.out.size));clear hV c1 c2 c3 dp dv ch bn aA;clear wr;go_wp2_with fail
       refine⟨⟨j+1,by go_num,by omega,?_,dK.out⟩,by simp[intOf];omega⟩;rw[dT.out];simp
      obtain rfl:j=ln:=by omega
      have aA:=hid aF;clear aF ak;go_wp2_with fail
      refine⟨⟨c+1,by go_num,by omega,?_,aA.out⟩,by simp[intOf];omega⟩;rw[show n*2+(c+1)=a+1 by have:=dE.out;omega,dY.out,bS.out]
    obtain rfl:c=2:=by omega
    have aX:=hid (bd.out.trans (au.mono cK));clear au;go_wp2_with fail
    refine⟨⟨n+1,by go_num,by omega,?_,aX.out⟩,by simp[intOf];omega⟩;rw[show(n+1)*2=n*2+2 by omega]
  obtain rfl:n=M:=by omega
  have hr:=qg dz.out J;have b4:=hid (d9.out.trans (J.mono (show r≤wS.heap.size by omega)));have bc:=hid (ea.out.kb (KB.of_below J (Nat.zero_le _)));have cp:=qg du.out J;have bw:=hid (qF cd.out (fun g o=>J.block g (qm cd.out g o)));have dg:=hid (fun a O=>(dU.out a O).below J);have d3:r<wr.heap.size:=by omega
  clear J q2 cr aI aU c4 dt a9;go_wp2_with ((with_reducible show wpList _ _ _ (Oper.mk _ (Op.load 26 _) _ _ _ _::_) _ _);refine wpList_load_row rfl 26 _ rfl r rfl _ _ _ _ hr Tryz.underlying26 rfl (by kernel_rfl) ?_)
  refine(cN.out wr b4.out _ bc.out.hold).mono ?_;rintro e w2 ⟨u3,et,eq,rfl,b3,bC,I⟩;obtain⟨dM,dC,rfl⟩:=ym b3;have c7:=hid (cG.out _ _ _ _ _ b3 bC);have cb:=qg cp I;have aw:=hid (b4.out.trans (I.mono (show r≤wr.heap.size by omega)));have ay:=hid (bc.out.kb (KB.of_below I (Nat.zero_le _)));have aD:=hid (qF bw.out (fun g o=>I.block g (qm bw.out g o)));have cn:=hid (fun a O=>(dg.out a O).below I);have bW:r<w2.heap.size:=by have:=I.size;omega
  obtain⟨bA,av⟩:=Ex w2.heap.size;clear b3 bC I hr cp b4 bc bw dg d3 bi;clear wr;go_upto_region 26 with(fail)
  refine qn ?_;intro w5 ag;have be:w5.heap[bA]? =some (.cells #[.int .u64 T,.int .u64 L,.slice dM n dC] 55 (0,0)):=by rw[ag];exact qe _ _ av.symm
  have D:Below w2.heap.size w2 w5:=by rw[ag];exact Br.alloc Nl _
  have ai:=qg cb D;have aE:=hid (aw.out.trans (D.mono (show r≤w2.heap.size by omega)));have aq:=hid (ay.out.kb (KB.of_below D (Nat.zero_le _)));have bH:=hid (c7.out.below D);have bL:=hid ((J1 cj.out aD.out cn.out).below D);have c6:r<w5.heap.size:=by have:=D.size;omega
  clear ag D cb aw ay aD cn c7 bW av;clear w2;go_wp2_with (first|((with_reducible show wpList _ _ _ (Oper.mk (some 147) (Op.load 55 _) _ _ _ _::_) _ _);refine wpList_load_row rfl 55 _ rfl bA rfl _ _ _ _ be Tryz.underlying55 rfl (by kernel_rfl) ?_)|((with_reducible show wpList _ _ _ (Oper.mk (some 148) (Op.load 55 _) _ _ _ _::_) _ _);refine wpList_load_row rfl 55 _ rfl bQ rfl _ _ _ _ ai Tryz.underlying55 rfl (by kernel_rfl) ?_))
  refine(cA.out w5 _ _ bH.out bL.out).mono ?_;rintro e w6 ⟨rfl,G⟩;have an:=hid (aE.out.trans (G.mono (show r≤w5.heap.size by omega)));have ar:=hid (aq.out.kb (KB.of_below G (Nat.zero_le _)));have cX:r<w6.heap.size:=by have:=G.size;omega
  clear G aE aq bH bL be ai;go_wp2_with (first|(refine Zn (by rfl) ?_))
  refine(eb.out w6 _ _ ar.out.hold (HV.out w6 an.out)).mono ?_;rintro e w7 ⟨rfl,dO⟩;obtain⟨m7,rfl⟩:=dO;have eD:decide (zs=zs)=true:=by simp
  have aY:=hid (an.out.trans ((qet w6 m7).mono (show r≤w6.heap.size by omega)));clear an ar;go_wp2_with fail
  go_ret
  exact⟨rfl,by rw[ao];exact aY.out⟩
end Go.Proofs.YthjoojnlnlmljaaGreat
namespace Go.Proofs.YthjoojnlnlmljaaGreat
open Go.ChangeShapes Go.WideShapes Go.ChangeAt Go.RowKit Go.Joins Go.Shelf Go.Maps
open Go.Lib (hid)
theorem qaQ {H:Type}(enc:TypeId×Value→H)(W:World)(base:Nat)(args:Array Value)(ds:List (DataW H))(p:List MemPlace)
  (o: ∀(j:Nat) t v,Tryz.f4.params[j]? =some t→args[j]? =some v→Value.okWide Tryz.prog W .any base t v)
  (I:DataW.TrodAll enc Tryz.prog W 0 (fun _=>true) true Tryz.f4.params.toList args.toList ds p) (r: ∀x∈p,x.block<W.heap.size)
  (X:Rows.uptoSmall H ds=true):
  Calls Tryz.prog 4 args W (qh2 W):=by
 rw[Tryz.params4]at I o;obtain⟨v0,O,v2,d0,d1,d2,p0,p1,p2,rfl,rfl,rfl,V,h1,Y⟩:=trodAll_three I;have hb:Rows.uptoBulk d0+(Rows.uptoBulk d1+(Rows.uptoBulk d2+0))≤1048576:=of_decide_eq_true X;obtain⟨t,kz,z1,z2,rfl,Z,ht,b1,b2,b3⟩:=qff (o 0 26 v0 rfl rfl) V (fun x G=>r x (by simp[G]));obtain⟨zs,J,aa⟩:=qd2 (o 1 24 O rfl rfl) h1 (fun x G=>r x (by simp[G]));obtain⟨q,rfl,U⟩:=qhs (o 2 44 v2 rfl rfl) Y;obtain⟨D,rfl⟩: ∃n:Nat,q=n:=⟨q.toNat,by omega⟩;exact qaP t kz z1 z2 zs D (by omega) Z O W ht J (by omega)
theorem JE (V:Os)(o:V.Started)(H:Type)(enc:TypeId×Value→H)(O:Stop.Interp):
  ReturnsInHanded {} Tryz.checked V 4 .any ((Rows.OpenSpec.upto Rows.pathProvesSpec).pre6 enc Tryz.prog Tryz.f4 Rows.pathProvesUptoRow.domain false) (((Rows.OpenSpec.upto Rows.pathProvesSpec).at O).post enc Tryz.prog Tryz.f4 false true false false):=by
 refine returnsInHanded_of_cond_sized (C:=Tryz.checked) (s:=Rows.OpenSpec.upto Rows.pathProvesSpec) (k:=Rows.uptoSmall) rfl own o (by kernel_rfl) Tryz.func4
  (OpenSpec.witness (enc:=enc) (C:=Tryz.checked) (s:=Rows.OpenSpec.upto Rows.pathProvesSpec) (k:=Rows.uptoSmall) rfl false ⟨#[],#[.agg #[.int .i64 0,.int .i64 0,.int .i64 0,.int .i64 0,.int .u32 0,.int .i64 0,.slice none 0 0,.slice none 0 0,.slice none 0 0],.slice none 0 0,.int .u64 0],[]⟩ 40 (by kernel_rfl) (by kernel_rfl) (by kernel_rfl)
   (x:=([.agg [.lit (.int .i64 0),.lit (.int .i64 0),.lit (.int .i64 0),.lit (.int .i64 0),.lit (.int .u32 0),.lit (.int .i64 0),.nil,.nil,.nil],.nil,.lit (.int .u64 0)],[],[])) (by kernel_rfl) (by kernel_rfl) (by kernel_rfl)) ?_
 intro W base args ds gs U r Y aa Z hz _;have G:=Y;obtain⟨p,q,X,hV,rfl,ab,ac⟩:=Y;have J:DataW.TrodAll enc Tryz.prog W 0 (fun _=>true) true Tryz.f4.params.toList args.toList ds p:=X;obtain⟨rfl,rfl⟩:=trodVars_none hV;have I:Rows.uptoSmall H ds=true:=by rw[←List.append_nil ds];exact Z
 refine(qaQ enc W base args ds p r J (fun x hx=>G.lt x (by simpa using hx)) I).mono fun e W' h=>⟨_,h.1,?_⟩
 refine qb8 (s:=(Rows.OpenSpec.upto Rows.pathProvesSpec).at O) qiy _ rfl Tryz.underlying4 (by decide+kernel) rfl G ?_ h.2;have D:=J;rw[Tryz.params4]at D;obtain⟨v0,v1,v2,d0,d1,d2,p0,p1,p2,rfl,rfl,_⟩:=trodAll_three D;rfl
theorem pathProves_holds:Rows.PathProvesUptoSaid:=
 OpenClaim.holds_of_cond 4 Tryz.f4 rfl rfl rfl rfl rfl rfl rfl ⟨rfl,rfl,rfl,rfl,rfl⟩ rfl rfl rfl rfl rfl (by kernel_rfl) Tryz.func4 (by kernel_rfl)
  (of_decide_eq_true (by kernel_rfl)) (by unfold Func.isWrapper;first|(rw[if_pos (by decide+kernel)];kernel_rfl)|(rw[if_neg (by decide+kernel)];exact⟨rfl,rfl⟩))
  (fun q o H enc _ r=>by rw[OpenClaim.pre_of_none' rfl];exact JE q o H enc r)
#print axioms pathProves_holds
end Go.Proofs.YthjoojnlnlmljaaGreat
