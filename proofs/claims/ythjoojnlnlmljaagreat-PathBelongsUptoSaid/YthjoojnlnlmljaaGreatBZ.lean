/- What the laws of a message's path lean on: packed bytes of one's own, one byte of them turned; equal bytes or not. No condition. -/
import Derived.Test.YthjoojnlnlmljaaGreatP01
import Derived.Test.YthjoojnlnlmljaaGreatB46
import Derived.Test.YthjoojnlnlmljaaGreatB11
import Derived.Test.YthjoojnlnlmljaaGreatB44
import Derived.Test.YthjoojnlnlmljaaGreatB45
import Derived.Deep.CondSized
import Derived.JoinedCond
set_option linter.all false
set_option maxRecDepth 100000
set_option maxHeartbeats 8000000
namespace Go.Proofs.YthjoojnlnlmljaaGreat
open Go.ChangeShapes Go.WideShapes Go.ChangeAt Go.RowKit Go.Joins Go.Shelf Go.Maps
open Go.Lib (hid)
attribute [local go_sem] Oper.semAt_some
structure PackF (t:TreeV)(total leaf i m:Nat)(ss:List Qh)(P:List Int):Prop where
 len:P.length=16+QI t total leaf m*i
 most:P.length≤134217728
 byt: ∀z∈P,0≤z∧z≤255
 un: ∀zs:List Int,zs.length=P.length→(∀j,j<16→qp zs j=qp P j)→(∀z∈zs,0≤z∧z≤255)→unF t zs=⟨total,leaf,unL t total leaf i zs m,0⟩∧Zr t.i m (chI t total leaf) (afI t total leaf) (unL t total leaf i zs m)∧yZ 1048576 (unL t total leaf i zs m)
 back:unL t total leaf i P m=ss
theorem qfZ {t:TreeV}(h:t.validE=0)(D:0≤t.l∧t.l≤4294967295)(kz z1 z2 zs:List Int)(hn:zs.length≤1048576){leaf m:Nat}(ab:leaf≤65535)(X:t.spotE zs.length 0 leaf=0)(hm:(t.rowsOf zs.length).length - 1=m):
  ∃i:Nat,t.i=(i:Int)∧PackF t zs.length leaf i m (t.stepsZ kz z1 z2 zs leaf m) (ya zs.length leaf (t.stepsZ kz z1 z2 zs leaf m) m):=by
 have I:=yH h (show zs.length≤4194304 by omega);have hR:=qF I;have ae:=hR.len;have ac:=hR.most;have aa:=qn h;have ag:t.pn≤255:=by have:=aa.2.2.2.2.2.2.2.1;unfold TreeV.pn;omega
 obtain⟨J, -,i1,i2, -⟩:=zi D (show(zs.length:Int)≤18446744073709551615 by omega) X;obtain⟨hf,ho⟩:=zB h D kz z1 z2 zs hn X hm;obtain⟨i,hi⟩: ∃i:Nat,t.i=(i:Int):=⟨t.i.toNat,by omega⟩;have Y: ∀k,k<m→chI t zs.length leaf k=(chN t zs.length leaf k:Nat):=fun k r=>qd2 (J k (by omega))
 have hF:=qda hi Y hf;have ah:=qeM J m (by omega);have af:nth (t.rowsOf zs.length) 0≤zs.length+1:=by
  rw[←QK I kz z1 z2 (Yg h D kz z1 z2 zs) (Qc h D kz z1 z2 zs).2.2 0 (by omega)];exact(Qc h D kz z1 z2 zs).2.1
 have ad:QI t zs.length leaf m*i≤1048577*64:=Nat.mul_le_mul (by omega) (by omega);have U:(ya zs.length leaf (t.stepsZ kz z1 z2 zs leaf m) m).length=16+QI t zs.length leaf m*i:=by rw[zJ,(hF m Nl).1]
 have S:ya zs.length leaf (t.stepsZ kz z1 z2 zs leaf m) m=(qD zs.length 8++qD leaf 8)++ye (t.stepsZ kz z1 z2 zs leaf m) m:=rfl;refine⟨i,hi,U,by omega,fun z o=>?_,fun ys hy hj hb=>?_,qhV hi Y hf⟩
 ·have G: ∀(L:List (List Int)),(∀d∈L,qcl d)→ ∀k,k≤L.length→ ∀z∈Qb L k,0≤z∧z≤255:=fun L hL k=>by
   induction k with
   | zero=>intro _ z o;simp[Qb]at o
   | succ k ih=>
    intro r z o;rcases List.mem_append.1 o with o|o
    ·exact ih (by omega) z o
    ·exact hL _ (yQ (by omega)) z o
  have Z: ∀k,k≤m→ ∀z∈ye (t.stepsZ kz z1 z2 zs leaf m) k,0≤z∧z≤255:=fun k=>by
   induction k with
   | zero=>intro _ z o;simp[ye]at o
   | succ k ih=>
    intro r z o;have q:=ho.2 _ (Zx (ss:=t.stepsZ kz z1 z2 zs leaf m) (k:=k) (by rw[QM];omega));rcases List.mem_append.1 o with o|o
    ·exact ih (by omega) z o
    ·rcases List.mem_append.1 o with o|o
     ·exact G _ (fun d V=>(q.1.2 d V).2) _ Nl z o
     ·exact G _ (fun d V=>(q.2.2 d V).2) _ Nl z o
  rw[S]at o;rcases List.mem_append.1 o with o|o
  ·rcases List.mem_append.1 o with o|o
   ·exact zg _ _ z o
   ·exact zg _ _ z o
  ·exact Z m Nl z o
 ·refine qjX h hi (by omega) hm (by omega) (by omega) X Y (hy.trans U) (fun j O=>?_) (fun s hs=>?_) (by omega) hb (by omega)
  ·rw[hj j O,S];unfold qp;rw[Lg,Lg,List.getElem?_append_left (by rw[List.length_append,qG,qG];exact O)]
  ·obtain⟨k,r,e⟩:=List.mem_iff_getElem.1 hs;rw[yc]at r;have e2:s=qA (unL t zs.length leaf i ys m) k:=by
    unfold qA;rw[Lg,List.getElem?_eq_getElem (by rw[yc];exact r),←e];rfl
   rw[e2,qbv _ _ _ _ _ _ _ r,yb,yb];have h5:=((hF k (by omega)).2 r).2;have q:=ho.2 _ (Zx (ss:=t.stepsZ kz z1 z2 zs leaf m) (k:=k) (by rw[QM];omega));rw[←h5.1,←h5.2.1];exact⟨q.1.1,q.2.1⟩
theorem qbf (t:TreeV)(n nr:Nat)(hn:n≤1048576)(hl:0≤t.l∧t.l≤4294967295)(va:Option Addr)(vc:Nat)(w:World)(O:t.validE≠0):
  Calls Tryz.prog 8 #[t.val,.slice va n vc,.int .u16 nr] w (qgZ w):=by
 obtain⟨o,D⟩:=Ex w.heap.size;have r:t.err n≠0:=fun e=>O (Q5 e)
 have X:=hid (Jj t hl n (by omega) r);have hq:(t.err n != 0)=true:=by rw[bne_iff_ne];exact r
 have ac:IntKind.u64.wrap (n:Int)=(n:Int):=u64_wrap_id _ (by omega) (by omega);generalize t.err n=ev at*;clear r O;unfold TreeV.val at*;go_enter Tryz.func8,Tryz.ntmps8
 go_upto_region 1 with(fail)
 refine qm ?_;intro I J;have G:I.heap[o]? =some (.cells t.c 26 (0,0)):=by rw[J];exact qe _ _ D.symm
 have S:Below o w I:=by rw[J,←D];exact Br.alloc Nl _
 have aa:o<I.heap.size:=(Ai G).1;clear J;go_wp2_with fail
 refine(Jk I).mono ?_;rintro e w1 ⟨rfl,q⟩;have U:=qf G q;have Z:=hid (S.trans (q.mono (show o≤I.heap.size by omega)));have ab:o<w1.heap.size:=by have:=q.size;omega
 clear q G S aa;go_wp2_with (refine L26 o rfl U ?_)
 refine(X.out w1).mono ?_;rintro e w2 ⟨rfl,V⟩;have Y:=hid (Z.out.trans (V.mono (show o≤w1.heap.size by omega)));clear V U;go_wp2_with fail
 go_ret
 exact⟨rfl,by rw[D];exact Y.out⟩
theorem qea {P:Program}{ops:Array Oper}{Q:Exit→Act→World→Prop}{a:Act}{w:World}{o:List Oper}{d:Option Tmp}{q:Op}{G:TypeId}{r:String}{D:Array Edge}{g:Nat×Bool}
  (I:Region.wanted ⟨d,q,G,r,D,some g⟩ (yielded ops a.tmps)=true) (h:wpList P ops Q (⟨d,q,G,r,D,none⟩::o) a w):wpList P ops Q (⟨d,q,G,r,D,some g⟩::o) a w:=by
 unfold wpList at h⊢;rw[if_pos I];rw[if_pos (by rfl)]at h;exact h
theorem qju {w:World}{B T s n:Nat}{v:Value}{xs:List Value}(h:w.ownsRow B T s v n xs): ∀k,v.ownBlock=some k→B≤k∧k<w.heap.size:=by
 rcases h.2 with⟨rfl, -⟩|⟨g,G,D,rfl,q,r, -⟩
 ·intro k o;cases o
 ·intro k o;have:g=k:=Option.some.inj o
  subst this;exact⟨q,(Ai r).1⟩
theorem OwnB.grown {B:Nat}{w w':World}{x:Value}{z:List Int}{row:Option Nat}(h:OwnB B w x z)(J:w.grownBy w' row)(D: ∀k,row=some k→k<B):OwnB B w' x z:=by
 refine⟨h.1,?_⟩;rcases h.2 with o|⟨g,r,q,e,G,o,I⟩
 ·exact .inl o
 ·exact .inr ⟨g,r,q,e,G,(J.block g (Ai o).1 (fun e=>by have:=D g e.symm;omega)).trans o,I⟩
def One0 (B:Nat)(v:Value)(W:World):Prop:= ∃g,v= .slice (some ⟨g,0,none⟩) 1 1∧B≤g∧W.cell? ⟨g,0,none⟩=some (.int .u8 0)
theorem One0.below {B:Nat}{v:Value}{W W':World}(h:One0 B v W)(r:Below W.heap.size W W'):One0 B v W':=by
 obtain⟨g,e,q,o⟩:=h;exact⟨g,e,q,(r.cell (p:=⟨g,0,none⟩) (World.block_lt_of_cell? W _ o)).trans o⟩
theorem One0.grown {B:Nat}{v:Value}{w w':World}{row:Option Nat}(h:One0 B v w)(D:w.grownBy w' row)(o: ∀k,row=some k→k<B):One0 B v w':=by
 obtain⟨g,e,q,r⟩:=h;exact⟨g,e,q,D.cell r (fun e=>by have:=o g e.symm;omega)⟩
theorem qhc (ss:List Qh)(h:yZ 1048576 ss):qfn ss:=⟨h.1,fun s o=>⟨⟨(h.2 s o).1.1,fun d q=>((h.2 s o).1.2 d q).1⟩,⟨(h.2 s o).2.1,fun d q=>((h.2 s o).2.2 d q).1⟩⟩⟩
theorem qal (t:TreeV)(kz z1 z2 zs:List Int)(nr:Nat)(df:nr≤65535)(hl:0≤t.l∧t.l≤4294967295)(v:Value)(w:World)(h:TreeH w t kz z1 z2)(hv:Hold w v zs)(db:zs.length≤1048575):
  Calls Tryz.prog 8 #[t.val,v,.int .u16 nr] w (qgZ w):=by
 have hn:zs.length≤1048576:=by omega
 obtain⟨q,Y⟩:=Ex w.heap.size;obtain⟨va,vc,rfl,dx,dD⟩:=id hv.slice;by_cases O:t.validE=0
 case neg=>exact qbf t zs.length nr hn hl va vc w O
 have aY:=yH O (show zs.length≤4194304 by omega);have bH:1≤t.ln:=by
  have:=(qn O).2.2.2.2.2.2.2.2.1
  unfold TreeV.ln;omega
 obtain⟨n,aA⟩:=Ex (lvs zs.length t.ln);have db:1≤n:=by rw[←aA];unfold lvs;omega
 have dj:=hid (fun(W:World)=>aA▸ZM t hl zs.length (by omega) aY W);obtain⟨leaf,aj⟩:=Ex (nr%n);have bO:leaf≤65535:=by rw[←aj];exact Nat.le_trans (Nat.mod_le _ _) df
 have bb:leaf<n:=by rw[←aj];exact Nat.mod_lt _ (by omega)
 have he:=ZY O (show zs.length≤4194304 by omega) (aA.symm▸bb);have am:=Zz hl he;have aW:=Z4 aY am.2.2.2 (k:=0) (by have:=(qF aY).len;omega);have cx:t.spotR zs.length ((0:Nat):Int) leaf=qx t zs.length leaf 0:=aW.2.1;have aJ:(qx t zs.length leaf 0).row=0∧(qx t zs.length leaf 0).at_=leaf:=⟨aW.2.2.1,aW.2.2.2.1⟩;have X:=fun(W:World)=>Zd t hl zs.length (by omega) ((0:Nat):Int) leaf W
 rw[cx,show t.spotE zs.length ((0:Nat):Int) leaf=0 from he]at X;unfold SpotV.val at X;rw[aJ.1,aJ.2]at X;obtain⟨m,hm⟩:=Ex ((t.rowsOf zs.length).length - 1);obtain⟨F,hF⟩:=Ex ((qx t zs.length leaf 0).frm);obtain⟨T,hT⟩:=Ex ((qx t zs.length leaf 0).to_);have ah:=qaH O hl kz z1 z2 zs zs rfl hn (leaf:=leaf) (m:=m) (aA.symm▸bb) hm (fun _ _=>rfl);obtain⟨i,hi,ao⟩:=qfZ O hl kz z1 z2 zs hn bO he hm;have aq:=zB O hl kz z1 z2 zs hn he hm;have cj:=QM t kz z1 z2 zs leaf m;obtain⟨P,hP⟩:=Ex (ya zs.length leaf (t.stepsZ kz z1 z2 zs leaf m) m);rw[hP]at ao;have ac:(zs.drop F).take (T - F)=qC (QC t.ln zs) leaf:=by
  have h3:=ah.1.1;rw[hF,hT,qgn bH]at h3;have h4:=am.2.2.1;rw[hF]at h4;rw[qgn bH,h4];rw[h4]at h3;exact qhb (by omega)
 have cA:(qC (QC t.ln zs) leaf).length≤1048576:=by rw[←ac,List.length_take,List.length_drop];omega
 obtain⟨aM,cM,cR⟩:=ao.un P rfl (fun _ _=>rfl) ao.byt;rw[ao.back]at aM;have bp:t.checkE kz z1 z2 zs.length leaf (t.stepsZ kz z1 z2 zs leaf m) (qC (QC t.ln zs) leaf) (t.digZ kz z1 z2 zs)=0:=by
  unfold TreeV.checkE;rw[if_neg (by rw[ah.2.1];simp),if_pos ah.2.2]
 have bJ:t.checkE kz z1 z2 zs.length leaf (t.stepsZ kz z1 z2 zs leaf m) (qC (QC t.ln zs) leaf++[0]) (t.digZ kz z1 z2 zs)=4:=by
  have c4: ¬t.fitsQ zs.length leaf (t.stepsZ kz z1 z2 zs leaf m) (qC (QC t.ln zs) leaf++[0]):=fun hq=>by
   have h1:=ah.1.1;have h2:=hq.1;rw[List.length_append,List.length_singleton]at h2;omega
  have e:t.rootE zs.length leaf (t.stepsZ kz z1 z2 zs leaf m) (qC (QC t.ln zs) leaf++[0])=4:=by
   unfold TreeV.rootE;rw[if_neg (by simp[he]),if_neg c4]
  unfold TreeV.checkE;rw[if_pos (by rw[e];decide),e]
 rw[hF,hT]at X am;have cV:F≤T:=am.1;have di:T≤zs.length:=am.2.1;generalize (qx t zs.length leaf 0).last=la at X;generalize (qx t zs.length leaf 0).root=ro at X;have dg:=hid X;have bY:=hid ao;have c0:=hid ac;have dN:=hid cA;have co:=hid (fun(W:World) (I:Below q w W)=>qiq t kz z1 z2 zs leaf (by omega) (.slice va zs.length vc) W ⟨O,hl,h.k.below (Y▸I),h.s.below (Y▸I),h.p.below (Y▸I)⟩ (hv.below (Y▸I)) (by omega) he);rw[hm]at co;have bi:=hid (fun(W:World) (I:Below q w W)=>qgg t kz z1 z2 zs (.slice va zs.length vc) W hl (h.k.below (Y▸I)) (h.s.below (Y▸I)) (h.p.below (Y▸I)) (hv.below (Y▸I)) (by omega));have ch:=hid (fun(W:World) (u:Value) (hu:StepsAt W u (t.stepsZ kz z1 z2 zs leaf m))=>qit t hl zs.length leaf (by omega) (by omega) u _ W hu aq.2 he (by rw[hm];exact aq.1));rw[cj,hP]at ch;have cB:=hid (fun(W:World) (x:Value) (ys:List Int) (h1: ∀z∈ys,0≤z∧z≤255) (h2:ys.length≤134217728) (h3: ∀a n c,x= .slice a n c→n≤c) (h4:Holds8 W x ys)=>qfv t hl ys x h1 h2 h3 W h4);have br:=hid (fun(W:World) (I:Below q w W) (u x rv:Value) (hu:StepsAt W u (t.stepsZ kz z1 z2 zs leaf m)) (hx:Hold W x (qC (QC t.ln zs) leaf)) (hr:Hold W rv (t.digZ kz z1 z2 zs))=>bp▸qdf t kz z1 z2 (qC (QC t.ln zs) leaf) (t.digZ kz z1 z2 zs) zs.length leaf (by omega) (by omega) hl u x rv _ W (h.below (Y▸I)) hu aq.2 hx (by omega) hr);have cO:=hid (fun(W:World) (I:Below q w W) (u x rv:Value) (hu:StepsAt W u (t.stepsZ kz z1 z2 zs leaf m)) (hx:Hold W x (qC (QC t.ln zs) leaf++[0])) (hr:Hold W rv (t.digZ kz z1 z2 zs))=>bJ▸qdf t kz z1 z2 (qC (QC t.ln zs) leaf++[0]) (t.digZ kz z1 z2 zs) zs.length leaf (by omega) (by omega) hl u x rv _ W (h.below (Y▸I)) hu aq.2 hx (by rw[List.length_append,List.length_singleton,←ac,List.length_take,List.length_drop];omega) hr);have cF:=qhc (t.stepsZ kz z1 z2 zs leaf m) aq.2;have cY:=hid (fun(W:World) (u v:Value) (hu:StepsAt W u (t.stepsZ kz z1 z2 zs leaf m)) (hv:StepsAt W v (t.stepsZ kz z1 z2 zs leaf m))=>qhQ zs.length leaf _ u v W hu hv cF);have de:=hid (fun(W:World) (x:Value) (hx:Hold W x (qC (QC t.ln zs) leaf))=>qd1 (qC (QC t.ln zs) leaf) x W hx (by omega));have cE:=hid aM;have cz:=hid (show(qC (QC t.ln zs) leaf).length≤1048576 by rw[←ac,List.length_take,List.length_drop];omega);obtain⟨i0,dm,c5,da,c6⟩:=info_parts Ql;have dk:=hid (fun(W:World) (I:Below q w W)=>hv.below (Y▸I));have dQ:=hid O;have dU:IntKind.u64.wrap (zs.length:Int)=(zs.length:Int):=u64_wrap_id _ (by omega) (by omega);have dO:IntKind.u64.wrap (nr:Int)=(nr:Int):=u64_wrap_id _ (by omega) (by omega);have c3:=hid aj;unfold qjW at bi;rw[O]at bi;generalize t.digZ kz z1 z2 zs=D at*;generalize qC (QC t.ln zs) leaf=pz at*;clear O aY bH aA am aW cx aJ X ah ao aq cj hP ac cA aM cM cR bp bJ cF hm hF hT he h hv aj hi;unfold TreeV.val QZ at*;go_enter Tryz.func8,Tryz.ntmps8
 go_upto_region 1 with(fail)
 refine qm ?_;intro wA bD;have bR:wA.heap[q]? =some (.cells t.c 26 (0,0)):=by rw[bD];exact qe _ _ Y.symm
 have cu:Below q w wA:=by rw[bD,←Y];exact Br.alloc Nl _
 have c9:q<wA.heap.size:=(Ai bR).1;clear bD;go_wp2_with fail
 refine(Jk wA).mono ?_;rintro e w1 ⟨rfl,aV⟩;have bS:=qf bR aV;have cm:=hid (cu.trans (aV.mono (show q≤wA.heap.size by omega)));have c7:q<w1.heap.size:=by have:=aV.size;omega
 clear aV bR cu c9;go_wp2_with (refine L26 q rfl bS ?_)
 refine(dj.out w1).mono ?_;rintro e w2 ⟨rfl,aZ⟩;have bx:=qf bS aZ;have bg:=hid (cm.out.trans (aZ.mono (show q≤w1.heap.size by omega)));have cX:q<w2.heap.size:=by have:=aZ.size;omega
 clear aZ bS cm c7;have dK:0<n:=by omega
 have dL:(nr:Int)%(n:Int)=(leaf:Int):=by rw[←c3.out];exact(Int.natCast_emod nr n).symm
 go_wp2_with (refine L26 q rfl bx ?_)
 refine(co.out w2 bg.out).mono ?_;rintro e w3 ⟨u,xs,DS,rfl,⟨aI,cw⟩,b5⟩;have an:=qhY aI cw;obtain⟨ua,uc,rfl⟩:=Ye aI;have cG:=qf bx b5;obtain⟨bP,cC⟩:=Ex w3.heap.size;have bm:=hid (bg.out.trans (b5.mono (show q≤w2.heap.size by omega)));have bl:=hid an;clear aI cw an b5 bx bg cX;generalize t.stepsZ kz z1 z2 zs leaf m=SS at*;go_upto_region 8 with(fail)
 refine qm ?_;intro w4 bI;have bh:w4.heap[bP]? =some (.cells #[.int .u64 zs.length,.int .u64 leaf,.slice ua m uc] 55 (0,0)):=by rw[bI];exact qe _ _ cC.symm
 have bd:Below w3.heap.size w3 w4:=by rw[bI];exact Br.alloc Nl _
 have aX:=qf cG bd;have bL:=hid (bl.out.below bd);have cq:=hid (bm.out.trans (bd.mono (show q≤w3.heap.size by have:=bm.out.size;omega)));have dl:bP<w4.heap.size:=(Ai bh).1;have cT:q<w4.heap.size:=(Ai aX).1;clear bI bd cG bl bm cC;clear w3;go_wp2_with (refine L26 q rfl aX ?_)
 refine(dg.out w4).mono ?_;rintro e w5 ⟨rfl,ap⟩;have cH:=qf aX ap;have ca:=qf bh ap;have bj:=hid (bL.out.below ap);have ci:=hid (cq.out.trans (ap.mono (show q≤w4.heap.size by omega)));have c8:q<w5.heap.size:=by have:=ap.size;omega
 obtain⟨bs,cD⟩:=Ex w5.heap.size;clear ap aX bh cq bL dl cT;go_upto_region 11 with(fail)
 refine qm ?_;intro w6 bF;have aT:w6.heap[bs]? =some (.cells #[.int .i64 0,.int .u64 leaf,.int .u64 F,.int .u64 T,.bool la,.bool ro] 96 (0,0)):=by rw[bF];exact qe _ _ cD.symm
 have aC:Below w5.heap.size w5 w6:=by rw[bF];exact Br.alloc Nl _
 have bf:=qf cH aC;have aS:=qf ca aC;have aQ:=hid (bj.out.below aC);have bv:=hid (ci.out.trans (aC.mono (show q≤w5.heap.size by omega)));have cZ:q<w6.heap.size:=(Ai bf).1;have s2:w6.cell? ⟨bs,2,none⟩=some (.int .u64 F):=qd aT 2;have s3:w6.cell? ⟨bs,3,none⟩=some (.int .u64 T):=qd aT 3;have dn:bs<w6.heap.size:=(Ai aT).1;have dz:T≤vc:=by omega
 clear bF aC cH ca ci bj c8 cD;clear w5;have ak:=qeY (lo:=F) (hi:=T) (dk.out w6 bv.out) cV di;rw[c0.out]at ak;by_cases cl:vc=F
 all_goals
  first|(subst cl;rw[if_pos rfl,Nat.sub_self,show T - vc=0 by omega]at ak)|rw[if_neg cl]at ak
  have ba:=hid ak;clear ak;go_wp2_with fail
  refine(de.out w6 _ ba.out).mono ?_;rintro e w7 ⟨x,rfl,aB,al⟩;have hx:OwnB w6.heap.size w7 x pz:=⟨ba.out.1,Q9 aB⟩;obtain⟨xa,xc,rfl,dt,dG⟩:=id hx.hold.slice;obtain⟨bX,ad⟩:=Ex w6.heap.size;have bM:=qf bf al;have bW:=qf aS al;have bV:=hid (aQ.out.below al);have bw:=hid (bv.out.trans (al.mono (show q≤w6.heap.size by omega)));rw[ad]at aB;have aF:Below bX w6 w7:=by rw[←ad];exact al
  have dC:q<bX∧bs<bX∧bP<bX:=⟨by omega,by omega,by have:=(Ai aS).1;omega⟩;obtain⟨b7,bn⟩:=Ex w7.heap.size;have bG:=qju aB;rw[bn]at bG;have bC:=hid bG;have cp:=hid ba.out.1;have ct:=hid aB;have aF:=hid aF;have bE:q<w7.heap.size:=by have:=al.size;omega
  clear hx aB bG al bf aS bv s2 s3 ba aT dn cZ;go_wp2_with (refine L26 q rfl bM ?_)
  refine(bi.out w7 bw.out).mono ?_;rintro e w8 ⟨rv,rfl,cc,ai⟩;obtain⟨be,a9,rfl, -, -⟩:=cc.hold.slice;have cd:=qf bM ai;have aO:=qf bW ai;have aL:=hid (bV.out.below ai);have cv:=hid (bw.out.trans (ai.mono (show q≤w7.heap.size by omega)));have cn:=hid (Jz ct.out (KB.of_below ai (Nat.zero_le _)));have b8:=hid (aF.out.trans (ai.mono (ad▸aF.out.size)));have ab:=hid (bn▸ai.size);have b4:=hid (show OwnB b7 w8 _ D from bn▸cc);have dc:q<w8.heap.size:=by have:=ai.size;omega
  clear cc ai bM bW bV bw ct aF bE;go_wp2_with (first|(refine L26 q rfl cd ?_)|((with_reducible show wpList _ _ _ (Oper.mk (some _) (Op.load 55 _) _ _ _ _::_) _ _);refine wpList_load_row rfl 55 _ rfl bP rfl _ _ _ _ aO Tryz.underlying55 rfl (by kernel_rfl) ?_))
  refine(ch.out w8 _ aL.out).mono ?_;rintro e w9 ⟨pv,rfl,cr,af⟩;have bt:=qf cd af;have bA:=qf aO af;have bu:=hid (aL.out.below af);have cJ:=hid (cv.out.trans (af.mono (show q≤w8.heap.size by omega)));have cK:=hid (Jz cn.out (KB.of_below af (Nat.zero_le _)));have ab:=hid (Nat.le_trans ab.out af.size);have bK:=hid (b8.out.trans (af.mono (ad▸b8.out.size)));have bz:=hid (b4.out.kb (KB.of_below af (Nat.zero_le _)));have b3:OwnB w8.heap.size w9 pv P:=⟨bY.out.byt,Q9 cr⟩;obtain⟨pa,pc,rfl,dE,dy⟩:=id b3.hold.slice;have ar:=cB.out w9 _ P bY.out.byt bY.out.most (fun a n c e=>by simp only[Value.slice.injEq]at e;omega) b3.hold.holds8;unfold qjK at ar;rw[cE.out]at ar;dsimp only at ar;unfold QZ at ar;have b6:=hid ar;have cU:q<w9.heap.size:=by have:=af.size;omega
  clear cr b3 af cd aO aL cv cn b8 b4 dc ar cB cE;go_wp2_with (refine L26 q rfl bt ?_)
  refine b6.out.mono ?_;rintro e aE ⟨pp,ee,rfl,⟨rfl,dM,rfl,an⟩,aa⟩;obtain⟨qa,qc,U,V,rfl, -, -⟩:=id an;have aG:=qf bt aa;have bc:=qf bA aa;have a7:=hid (bu.out.below aa);have bk:=hid (cJ.out.trans (aa.mono (show q≤w9.heap.size by omega)));have bq:=hid (Jz cK.out (KB.of_below aa (Nat.zero_le _)));have ab:=hid (Nat.le_trans ab.out aa.size);have aN:=hid (bK.out.trans (aa.mono (ad▸bK.out.size)));have a4:=hid (bz.out.kb (KB.of_below aa (Nat.zero_le _)));have a5:=hid an;obtain⟨bQ,ck⟩:=Ex aE.heap.size;have cL:q<aE.heap.size:=(Ai aG).1;clear an aa bt bA bu cJ cK bK bz b6 cU;go_upto_region 15 with(fail)
  refine qm ?_;intro az aR;have bZ:az.heap[bQ]? =some (.cells #[.int .u64 zs.length,.int .u64 leaf,.slice qa SS.length qc] 55 (0,0)):=by rw[aR];exact qe _ _ ck.symm
  have Z:Below aE.heap.size aE az:=by rw[aR];exact Br.alloc Nl _
  have aH:=qf aG Z;have av:=qf bc Z;have au:=hid (a7.out.below Z);have aw:=hid (a5.out.below Z);have bU:=hid (bk.out.trans (Z.mono (show q≤aE.heap.size by omega)));have bo:=hid (Jz bq.out (KB.of_below Z (Nat.zero_le _)));have ab:=hid (Nat.le_trans ab.out Z.size);have aP:=hid (aN.out.trans (Z.mono (ad▸aN.out.size)));have a6:=hid (a4.out.kb (KB.of_below Z (Nat.zero_le _)));have cP:q<az.heap.size:=(Ai aH).1;clear aR Z aG bc a7 a5 bk bq aN a4 cL ck;go_wp2_with (first|(refine qea (by rfl) ?_)|((with_reducible show wpList _ _ _ (Oper.mk (some 87) (Op.load 55 _) _ _ _ _::_) _ _);refine wpList_load_row rfl 55 _ rfl bP rfl _ _ _ _ av Tryz.underlying55 rfl (by kernel_rfl) ?_)|((with_reducible show wpList _ _ _ (Oper.mk (some 88) (Op.load 55 _) _ _ _ _::_) _ _);refine wpList_load_row rfl 55 _ rfl bQ rfl _ _ _ _ bZ Tryz.underlying55 rfl (by kernel_rfl) ?_))
  refine(cY.out az _ _ au.out aw.out).mono ?_;rintro e ag ⟨rfl,J⟩;have ay:=qf aH J;have aU:=qf av J;have ce:=qf bZ J;have dp:=hid (au.out.below J);have cf:=hid (aw.out.below J);have ax:=hid (bU.out.trans (J.mono (show q≤az.heap.size by omega)));have b9:=hid (Jz bo.out (KB.of_below J (Nat.zero_le _)));have ab:=hid (Nat.le_trans ab.out J.size);have aK:=hid (aP.out.trans (J.mono (ad▸aP.out.size)));have cg:=hid (a6.out.kb (KB.of_below J (Nat.zero_le _)));have dF:q<ag.heap.size:=(Ai ay).1;clear J aH av bZ au aw bU bo aP a6 cP;go_upto_region 17 with(fail)
  have cb:bX≤ag.heap.size:=ad▸aK.out.size;have a8:=hid (fun(W:World) (I:Below ag.heap.size ag W)=>(show OwnB bX W _ pz from⟨cp.out,Q9 (Jz b9.out (KB.of_below I (Nat.zero_le _)))⟩).hold);have bE:b7≤ag.heap.size:=ab.out;refine qdm (n:=25) (fun f W=>Below bX ag W∧OwnB b7 W (.slice be D.length a9) D∧(f=false→Below ag.heap.size ag W)) 19 [.v 92 (.agg t.c),.v 93 (.agg #[.int .u64 zs.length,.int .u64 leaf,.slice ua m uc]),.v 94 (.slice xa pz.length xc),.v 95 (.slice be D.length a9),.v 96 (.int .i64 0),.v 97 (.bool true),.v 98 (.bool true),.v 99 (.agg t.c),.v 100 (.agg #[.int .u64 zs.length,.int .u64 leaf,.slice qa SS.length qc]),.v 101 (.slice xa pz.length xc),.v 102 (.slice be D.length a9),.v 103 (.int .i64 0),.v 104 (.bool true),.v 105 (.bool true),.v 106 (.bool true),.v 107 (.agg t.c),.v 108 (.agg #[.int .u64 zs.length,.int .u64 leaf,.slice ua m uc]),.v 109 (.slice xa pz.length xc),.p 110 (One0 ag.heap.size),.p 111 (BytO bX (pz++[0])),.v 112 (.slice be D.length a9),.v 113 (.int .i64 4),.v 114 (.bool true),.v 115 (.bool true),.v 6 (.bool true)] (by exact⟨(fun _ _ I _ h=>One0.below h I),(fun _ _ I _ h=>BytO.below h I),trivial⟩) ⟨Br.drew,cg.out.kb (KB.of_below Br.drew (Nat.zero_le _)),fun _=>Br.drew⟩ (fun f W W' h I=>⟨h.1.trans (I.mono (Nat.le_trans cb h.1.size)),h.2.1.kb (KB.of_below I (Nat.zero_le _)),fun e=>(h.2.2 e).trans (I.mono (h.2.2 e).size)⟩) ?_ ?_ ?_
  ·repeat' (with_reducible first|exact qB|refine qw ?_ ?_)
   all_goals try
    refine .inr ?_;intro A x W f r G hf ae hx o DD K S;have cW:=r.2 14 (by decide);conv at cW=>rhs;whnf
    have dd:=r.2 15 (by decide);conv at dd=>rhs;whnf
    simp only[Q7,yk]at DD;clear o r;go_simp
    exact S _ _ BR rfl
   any_goals exact .inl rfl
   all_goals refine .inr ?_
   ·intro A x W f r G hf ae hx o DD K S;have a3:=r.2 3 (by decide);conv at a3=>rhs;whnf
    exact wp_load_row 26 _ rfl q a3 _ _ _ _ ((G.1.block q (by omega)).trans ay) Tryz.underlying26 rfl (by kernel_rfl) (S _ _ BR rfl)
   ·intro A x W f r G hf ae hx o DD K S;have a3:=r.2 10 (by decide);conv at a3=>rhs;whnf
    exact wp_load_row 55 _ rfl bP a3 _ _ _ _ ((G.1.block bP (by omega)).trans aU) Tryz.underlying55 rfl (by kernel_rfl) (S _ _ BR rfl)
   ·intro A x W f r G hf ae hx o DD K S;have dS:=gw r o 0 92;have dT:=gw r o 1 93;have dR:=gw r o 2 94;have dV:=gw r o 3 95;clear DD;clear o r;go_simp
    refine(br.out W (ax.out.trans (G.1.mono (by omega))) _ _ _ (aQ.out.below (ad.symm▸aK.out.trans G.1)) (a8.out W (G.2.2 (hf (by kernel_rfl)))) G.2.1.hold).mono ?_;rintro e w5 ⟨rfl,aD⟩;exact S _ _ aD rfl
   ·intro A x W f r G hf ae hx o DD K S;have a3:=r.2 3 (by decide);conv at a3=>rhs;whnf
    exact wp_load_row 26 _ rfl q a3 _ _ _ _ ((G.1.block q (by omega)).trans ay) Tryz.underlying26 rfl (by kernel_rfl) (S _ _ BR rfl)
   ·intro A x W f r G hf ae hx o DD K S;have a3:=r.2 19 (by decide);conv at a3=>rhs;whnf
    exact wp_load_row 55 _ rfl bQ a3 _ _ _ _ (qf ce (G.2.2 (hf (by kernel_rfl)))) Tryz.underlying55 rfl (by kernel_rfl) (S _ _ BR rfl)
   ·intro A x W f r G hf ae hx o DD K S;have dP:=gw r o 7 99;have dJ:=gw r o 8 100;have dq:=gw r o 9 101;have dH:=gw r o 10 102;clear DD;clear o r;go_simp
    refine(br.out W (ax.out.trans (G.1.mono (by omega))) _ _ _ (cf.out.below (G.2.2 (hf (by kernel_rfl)))) (a8.out W (G.2.2 (hf (by kernel_rfl)))) G.2.1.hold).mono ?_;rintro e w5 ⟨rfl,aD⟩;exact S _ _ aD rfl
   ·intro A x W f r G hf ae hx o DD K S;have a3:=r.2 3 (by decide);conv at a3=>rhs;whnf
    exact wp_load_row 26 _ rfl q a3 _ _ _ _ ((G.1.block q (by omega)).trans ay) Tryz.underlying26 rfl (by kernel_rfl) (S _ _ BR rfl)
   ·intro A x W f r G hf ae hx o DD K S;have a3:=r.2 10 (by decide);conv at a3=>rhs;whnf
    exact wp_load_row 55 _ rfl bP a3 _ _ _ _ ((G.1.block bP (by omega)).trans aU) Tryz.underlying55 rfl (by kernel_rfl) (S _ _ BR rfl)
   ·intro A x W f r G hf ae hx o DD K S;clear o r DD;go_simp
    exact S _ _ (Br.alloc Nl _) ⟨_,rfl,(G.2.2 (hf (by kernel_rfl))).size,qd (Wn _ _) 0⟩
   ·intro A x W f r G hf ae hx o DD K S;have dI:=gw r o 15 107;have dv:=gw r o 16 108;have dw:=gw r o 20 112;simp only[Q7,yk]at DD;obtain⟨-, -,hd, -⟩:=DD;obtain⟨du,bN⟩:=Ex (A.tmps.getD 111 undef);rw[bN]at hd;have dr:A.tmps[111]?.getD undef=du:=by rw[←Lh];exact bN
    clear o r bN;go_simp
    refine(cO.out W (ax.out.trans (G.1.mono (by omega))) _ _ _ (aQ.out.below (ad.symm▸aK.out.trans G.1)) hd.hold G.2.1.hold).mono ?_;rintro e w5 ⟨rfl,aD⟩;exact S _ _ aD rfl
  ·intro A x W r G hx o K S;have cN:=gw r o 17 109;have cy:=o ⟨18,.data⟩ (by simp) rfl;change One0 ag.heap.size (x 110) W at cy
   have cI:=r.1 110 (by decide);obtain⟨g,eg,dW,dh⟩:=id cy;rw[eg]at cI;clear o r;have hB:=G.2.2 rfl;refine wp_append_own W _ _ 24 rfl bX 5 i0 (.int .u8 0) 1 1 Tryz.underlying24 dm c5 da c6 rfl (by decide) (.slice xa pz.length xc) pz.length (pz.map qo) cN (Jz b9.out (KB.of_below hB (Nat.zero_le _))) ⟨g,0,none⟩ 1 1 [.int .u8 0] cI rfl (by
    intro j u hj
    cases j with
    | zero=>obtain rfl:_=u:=Option.some.inj hj;exact dh
    | succ j=>simp at hj) (by
    intro u hu;simp at hu;subst hu;rfl) (by have:=cz.out;unfold maxLen;omega) (by have:=cz.out;omega) (Nat.le_trans cb hB.size) ?_
   intro v' w' h1 h2 h3;have h4:OwnB bX w' v' (pz++[0]):=⟨fun a ha=>(by
    rcases List.mem_append.1 ha with ha|ha
    ·exact cp.out a ha
    ·rw[List.mem_singleton.1 ha];decide),Q9 (n:=pz.length+1) (by rw[List.map_append];exact h1)⟩
   refine S v' w' (fun h=>by cases h) ⟨G.1.grown h2 (Nat.le_trans cb hB.size) (fun k e=>(bC.out k e).1),G.2.1.grown h2 (fun k e=>(bC.out k e).2),fun h=>(by cases h)⟩ ⟨.inr (.inr (fun _ h=>h)),.inr (.inr (fun _ h=>h)),.inr (.inr (fun _ h=>h)),.inr (.inr (fun _ h=>h)),.inr (.inr (fun _ h=>h)),.inr (.inr (fun _ h=>h)),.inr (.inr (fun _ h=>h)),.inr (.inr (fun _ h=>h)),.inr (.inr (fun _ h=>h)),.inr (.inr (fun _ h=>h)),.inr (.inr (fun _ h=>h)),.inr (.inr (fun _ h=>h)),.inr (.inr (fun _ h=>h)),.inr (.inr (fun _ h=>h)),.inr (.inr (fun _ h=>h)),.inr (.inr (fun _ h=>h)),.inr (.inr (fun _ h=>h)),.inr (.inr (fun _ h=>h)),.inr (.inr (fun _ h=>One0.grown h h2 (fun k e=>Nat.lt_of_lt_of_le (bC.out k e).2 bE))),.inl rfl,.inr (.inr (fun _ h=>h)),.inr (.inr (fun _ h=>h)),.inr (.inr (fun _ h=>h)),.inr (.inr (fun _ h=>h)),.inr (.inr (fun _ h=>h)),trivial⟩ h4
  intro x W G cS;clear cS;refine qv ?_;simp only[QP,Act.put,Ls];generalize x 110=dA at*;generalize x 111=dB at*;have bT:Below q w W:=ax.out.trans (G.1.mono (by omega));have cQ:=hid bT;clear G bT;go_wp2_with fail
  go_ret
  exact⟨rfl,by rw[Y];exact cQ.out⟩
end Go.Proofs.YthjoojnlnlmljaaGreat
namespace Go.Proofs.YthjoojnlnlmljaaGreat
open Go.ChangeShapes Go.WideShapes Go.ChangeAt Go.RowKit Go.Joins Go.Shelf Go.Maps
open Go.Lib (hid)
theorem qiv {H:Type}{enc:TypeId×Value→H}{w:World}{base I:Nat}{r:Reach}{o:Nat→Bool}{q:Bool}{v:Value}{d:DataW H}{D:List MemPlace}
  (G:Value.okWide Tryz.prog w r I 93 v) (h:DataW.Trod enc Tryz.prog w base o q 93 v d D):
  ∃n,v= .int .u16 n∧0≤n∧n≤65535:=by
 obtain⟨x,rfl,rfl,rfl,J⟩:=open_int Tryz.underlying93 G h;exact⟨x,rfl,bounds_u16 J⟩
theorem qam {H:Type}(enc:TypeId×Value→H)(W:World)(base:Nat)(args:Array Value)(ds:List (DataW H))(p:List MemPlace)
  (o: ∀(j:Nat) t v,Tryz.f8.params[j]? =some t→args[j]? =some v→Value.okWide Tryz.prog W .any base t v)
  (J:DataW.TrodAll enc Tryz.prog W 0 (fun _=>true) true Tryz.f8.params.toList args.toList ds p) (r: ∀x∈p,x.block<W.heap.size)
  (Y:Rows.uptoSmall H ds=true):
  Calls Tryz.prog 8 args W (qgZ W):=by
 rw[Tryz.params8]at J o;obtain⟨v0,O,S,I,d1,d2,p0,p1,p2,rfl,rfl,rfl,Z,U,X⟩:=trodAll_three J;have hb:Rows.uptoBulk I+(Rows.uptoBulk d1+(Rows.uptoBulk d2+0))≤1048576:=of_decide_eq_true Y;obtain⟨t,kz,z1,z2,rfl,V,ht,b1,b2,b3⟩:=qf3 (o 0 26 v0 rfl rfl) Z (fun x D=>r x (by simp[D]));obtain⟨zs,G,ab⟩:=qeK (o 1 24 O rfl rfl) U (fun x D=>r x (by simp[D]));obtain⟨q,rfl,aa⟩:=qiv (o 2 93 S rfl rfl) X;obtain⟨nr,rfl⟩: ∃n:Nat,q=n:=⟨q.toNat,by omega⟩;exact qal t kz z1 z2 zs nr (by omega) V O W ht G (by have:=qfe I;omega)
theorem Jy (O:Os)(o:O.Started)(H:Type)(enc:TypeId×Value→H)(S:Stop.Interp):
  ReturnsInHanded {} Tryz.checked O 8 .any ((Rows.OpenSpec.upto Rows.pathBelongsSpec).pre6 enc Tryz.prog Tryz.f8 Rows.pathBelongsUptoRow.domain false) (((Rows.OpenSpec.upto Rows.pathBelongsSpec).at S).post enc Tryz.prog Tryz.f8 false true false false):=by
 refine returnsInHanded_of_cond_sized (C:=Tryz.checked) (s:=Rows.OpenSpec.upto Rows.pathBelongsSpec) (k:=Rows.uptoSmall) rfl own o (by kernel_rfl) Tryz.func8
  (OpenSpec.witness (enc:=enc) (C:=Tryz.checked) (s:=Rows.OpenSpec.upto Rows.pathBelongsSpec) (k:=Rows.uptoSmall) rfl false ⟨#[],#[.agg #[.int .i64 0,.int .i64 0,.int .i64 0,.int .i64 0,.int .u32 0,.int .i64 0,.slice none 0 0,.slice none 0 0,.slice none 0 0],.slice none 0 0,.int .u16 0],[]⟩ 40 (by kernel_rfl) (by kernel_rfl) (by kernel_rfl)
   (x:=([.agg [.lit (.int .i64 0),.lit (.int .i64 0),.lit (.int .i64 0),.lit (.int .i64 0),.lit (.int .u32 0),.lit (.int .i64 0),.nil,.nil,.nil],.nil,.lit (.int .u16 0)],[],[])) (by kernel_rfl) (by kernel_rfl) (by kernel_rfl)) ?_
 intro W base args ds gs X r J Z hk hz _;have D:=J;obtain⟨p,q,V,hV,rfl,aa,ab⟩:=J;have I:DataW.TrodAll enc Tryz.prog W 0 (fun _=>true) true Tryz.f8.params.toList args.toList ds p:=V;obtain⟨rfl,rfl⟩:=trodVars_none hV;have U:Rows.uptoSmall H ds=true:=by rw[←List.append_nil ds];exact hk
 refine(qam enc W base args ds p r I (fun x Y=>D.lt x (by simpa using Y)) U).mono fun e W' h=>⟨_,h.1,?_⟩
 refine qcz (s:=(Rows.OpenSpec.upto Rows.pathBelongsSpec).at S) qjA _ rfl Tryz.underlying4 (by decide+kernel) rfl D ?_ h.2;have G:=I;rw[Tryz.params8]at G;obtain⟨v0,v1,v2,d0,d1,d2,p0,p1,p2,rfl,rfl,_⟩:=trodAll_three G;rfl
theorem pathBelongs_holds:Rows.PathBelongsUptoSaid:=
 OpenClaim.holds_of_cond 8 Tryz.f8 rfl rfl rfl rfl rfl rfl rfl ⟨rfl,rfl,rfl,rfl,rfl⟩ rfl rfl rfl rfl rfl (by kernel_rfl) Tryz.func8 (by kernel_rfl)
  (of_decide_eq_true (by kernel_rfl)) (by unfold Func.isWrapper;first|(rw[if_pos (by decide+kernel)];kernel_rfl)|(rw[if_neg (by decide+kernel)];exact⟨rfl,rfl⟩))
  (fun q o H enc _ r=>by rw[OpenClaim.pre_of_none' rfl];exact Jy q o H enc r)
#print axioms pathBelongs_holds
end Go.Proofs.YthjoojnlnlmljaaGreat
