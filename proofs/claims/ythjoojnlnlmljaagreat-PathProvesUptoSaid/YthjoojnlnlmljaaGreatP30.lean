/- Bytes are written, by the reference. No condition. -/
import Derived.Test.YthjoojnlnlmljaaGreatP25
import Derived.Test.YthjoojnlnlmljaaGreatP16
import Derived.Test.YthjoojnlnlmljaaGreatP24
set_option linter.all false
set_option maxRecDepth 100000
set_option maxHeartbeats 8000000
namespace Go.Proofs.YthjoojnlnlmljaaGreat
open Go.ChangeShapes Go.WideShapes Go.ChangeAt Go.RowKit Go.Joins Go.Shelf Go.Maps
open Go.Lib (hid)
attribute [local go_sem] Oper.semAt_some
theorem qct {big:Bool}{W:World}{o:Nat}{v:Nat→Nat}{G r D I x:Value}{la:Bool}{q:Int}(h:Yd big W o v G r D la I q):Yd big (W.setCell ⟨o,33,none⟩ x) o v G r D la x q:=heap_setCell_same W o 33 _ _ x h
theorem qgi {big:Bool}{W:World}{o:Nat}{v:Nat→Nat}{I q D r:Value}{la:Bool}{G x:Int}(h:Yd big W o v I q D la r G):Yd big (W.setCell ⟨o,34,none⟩ (.int .u64 x)) o v I q D la r x:=heap_setCell_same W o 34 _ _ _ h
theorem qe7 {big:Bool}{W:World}{o:Nat}{v:Nat→Nat}{I r G D:Value}{la b:Bool}{q:Int}(h:Yd big W o v I r G la D q):Yd big (W.setCell ⟨o,13,none⟩ (.bool b)) o v I r G b D q:=heap_setCell_same W o 13 _ _ _ h
theorem qiW {W:World}{n b:Nat}{v:Value}{xs:List Value}(h:W.ownsRow 0 5 1 v n xs)(o:v.ownBlock=some b):b<W.heap.size:=by
 rcases h.2 with⟨rfl, -⟩|⟨g,D,r,rfl,G,q, -⟩
 ·cases o
 ·simp only[Value.ownBlock,Option.some.injEq]at o;subst o;exact(Ai q).1
theorem qcX (big:Bool)(v:Nat→Nat)(o G:List Int)(sa pe kv mv bv:Value)(la:Bool)(O:Int)(r:Nat)(w:World)(hN:Yd big w r v sa pe kv la mv O)(hO:w.ownsRow 0 5 1 mv o.length (o.map qt))(hH:Hold w bv G)(hF:G≠[]→ ∀b,bv.ownBlock=some b→zG r mv b)(a8:(o.length:Int)+G.length≤140737488355328):
  Calls Tryz.prog 155 #[.pointer (some ⟨r,0,none⟩),bv] w fun e w'=>e= .returned (.tuple #[])∧(∃Z aF,Yd big w' r v sa pe kv la Z aF∧w'.ownsRow 0 5 1 Z (o++G).length ((o++G).map qt))∧Spare (zG r mv) w w':=by
 obtain⟨i0,hi,aL,aN,aJ⟩:=info_parts Qr;have bl:r<w.heap.size:=(Ai hN).1;obtain⟨ba,bc,rfl,aB,a9⟩:=hH.slice;obtain⟨S,hS⟩:=Ex (zG r mv);rw[hS];have aI:=hid hN;have a6:=hid hO;have ap:=hid hH;have ay:=hid hF;have ae:=hid hS;clear hN hO hH hF hS aB;have bg:(G.length:Int)≤140737488355328:=by omega
 go_enter Tryz.func155,Tryz.ntmps155
 go_wp2_with fail
 go_loopw [4] (fun i wr=> ∃j:Nat,i= .int .i64 (j:Nat)∧j≤G.length∧(∃Z,Yd big wr r v sa pe kv la Z O∧wr.ownsRow 0 5 1 Z (o.length+j) ((o++G.take j).map qt)∧(Z.ownBlock=mv.ownBlock∨ ∀g,Z.ownBlock=some g→w.heap.size≤g))∧Spare S w wr) (fun i _=>G.length - (intOf i).toNat)
 case atStart=>exact⟨0,rfl,Nat.zero_le _,⟨mv,aI.out,by simpa using a6.out,.inl rfl⟩,Spare.refl _ _⟩
 case round=>
  obtain⟨j,rfl,hj,⟨bn,hn,ho,hw⟩,am⟩:=hrel;obtain⟨a1,n1,c1,rfl⟩:=qs ho;have aR:n1=o.length+j:=yY ho;subst aR;have bd:r<wr.heap.size:=(Ai hn).1;have ak:=hid hn;have ax:=hid ho;have av:=hid hw;have ah:=hid am;by_cases an:j<G.length
  case neg=>
   obtain rfl:j=G.length:=by omega
   have bf:wr.cell? ⟨r,34,none⟩=some (.int .u64 O):=qd hn 34;have bm:=frozen_of_row wr r 34 _ _ hn;clear hn ho hw am;go_wp2
   go_end0
   have ar:=(But.refl r wr).set 34 (.int .u64 (IntKind.u64.wrap (O+(G.length:Int))));refine⟨rfl,⟨_,_,qgi ak.out,?_⟩,ah.out.trans (Spare.of_but ((But.refl r wr).set 34 _)) (fun b _ U=>by have h2:=ae.out;subst h2;exact U.1)⟩;have h1:=ax.out;rw[List.take_length]at h1;rw[List.length_append];exact Yk h1 ((But.refl r wr).set 34 _) ak.out (by decide)
  have al:G≠[]:=fun e=>by rw[e]at an;simp at an
  have aq:Hold wr (.slice ba G.length bc) G:=zB ap.out ap.out rfl (Spare.refl S w) am (fun b U=>by have h4:=ae.out;subst h4;exact ay.out al b U) al;obtain⟨Y,ad,rfl,q1,q2,q3,q4⟩:=qah aq Br an;have be:(j:Int)<G.length:=by omega
  have ar:o++G.take (j+1)=(o++G.take j)++[qr G j]:=by rw[ju an,List.append_assoc]
  have aP:=hid ar;have bk:=hid aq;obtain⟨z,hz⟩:=Ex (qr G j);rw[hz]at q2 q3 q4;have HZ:=hid hz;have Q2:=hid q2;have bi:(o.length:Int)+j<140737488355328:=by omega
  clear hn ho hw am ar aq hz q2;go_upto_region 3 with(fail)
  have aj: ∀(W:World) (f:Bool),((f=false→Below wr.heap.size wr W)∧(f=true→W.heap[r]? =some (.cells (rN (kB big) v sa pe kv la (.slice a1 (o.length+j) c1) O) 254 (0,0))∧Spare (fun b=>(Value.slice a1 (o.length+j) c1).ownBlock≠some b) wr W))→W.cell? ⟨Y,ad+j,none⟩=some (.int .u8 z):=fun W f J=>by
   cases f
   ·exact((J.1 rfl).cell (p:=⟨Y,ad+j,none⟩) q1).trans Q2.out
   ·refine(World.cell?_of_block ((J.2 rfl).2.block Y q1 ?_)).trans Q2.out;have h4:=ae.out;subst h4;have h5:=(ay.out al Y rfl).2;rcases av.out with h6|h6
    ·rw[h6];exact h5
    ·intro e;have:=h6 Y e;have h7:Y<w.heap.size:=YD ap.out al rfl;omega
  have ai: ∀(W:World) (f:Bool),((f=false→Below wr.heap.size wr W)∧(f=true→W.heap[r]? =some (.cells (rN (kB big) v sa pe kv la (.slice a1 (o.length+j) c1) O) 254 (0,0))∧Spare (fun b=>(Value.slice a1 (o.length+j) c1).ownBlock≠some b) wr W))→Y<W.heap.size:=fun W f J=>by
   cases f
   ·exact Nat.lt_of_lt_of_le q1 (J.1 rfl).size
   ·exact Nat.lt_of_lt_of_le q1 (J.2 rfl).2.size
  have ac: ∀(W:World) (f:Bool),((f=false→Below wr.heap.size wr W)∧(f=true→W.heap[r]? =some (.cells (rN (kB big) v sa pe kv la (.slice a1 (o.length+j) c1) O) 254 (0,0))∧Spare (fun b=>(Value.slice a1 (o.length+j) c1).ownBlock≠some b) wr W))→wr.heap.size≤W.heap.size:=fun W f J=>by
   cases f
   ·exact(J.1 rfl).size
   ·exact(J.2 rfl).2.size
  refine Yb (n:=11) (fun f W=>(f=false→Below wr.heap.size wr W)∧(f=true→W.heap[r]? =some (.cells (rN (kB big) v sa pe kv la (.slice a1 (o.length+j) c1) O) 254 (0,0))∧Spare (fun b=>(Value.slice a1 (o.length+j) c1).ownBlock≠some b) wr W)) 10 [.v 11 (.pointer (some ⟨r,0,none⟩)),.v 12 (.pointer (some ⟨r,0,none⟩)),.v 13 (.pointer (some ⟨r,0,none⟩)),.v 14 (.pointer (some ⟨r,33,none⟩)),.v 15 (.slice a1 (o.length+j) c1),.v 16 (.slice (some ⟨Y,ad,none⟩) G.length bc),.v 17 (.int .i64 (j:Nat)),.v 18 (.pointer (some ⟨Y,ad+j,none⟩)),.v 19 (.int .u8 z),.p 20 (fun u W=> ∃q,u= .slice (some ⟨q,0,none⟩) 1 1∧wr.heap.size≤q∧W.heap[q]? =some (.cells #[.int .u8 z] 5 (0,0))),.p 21 (fun u W=>W.ownsRow 0 5 1 u (o.length+(j+1)) ((o++G.take (j+1)).map qt)∧(u.ownBlock=(Value.slice a1 (o.length+j) c1).ownBlock∨ ∀g,u.ownBlock=some g→wr.heap.size≤g))] (by exact⟨(fun _ _ U _ h=>by obtain⟨q,e,h1,h2⟩:=h;exact⟨q,e,h1,qg h2 U⟩),(fun _ _ U u h=>⟨qi h.1 (fun g _ hg=>U.block g hg),h.2⟩),trivial⟩) ⟨fun _=>Br.drew,fun h=>(by cases h)⟩ (fun f W W' h U=>⟨fun e=>(h.1 e).trans (U.mono (h.1 e).size),fun e=>⟨qg (h.2 e).1 U,(h.2 e).2.trans (Spare.of_below _ U) (fun _ _ h=>h)⟩⟩) ?_ ?_ ?_
  ·repeat' (with_reducible first|exact qz|refine qx ?_ ?_)
   all_goals try
    refine .inr ?_;intro A x W f V J hf I D K hK;have a0:=V.2 0 (by decide);conv at a0=>rhs;whnf
    have a1:=V.2 1 (by decide);conv at a1=>rhs;whnf
    have a4:=V.2 4 (by decide);conv at a4=>rhs;whnf
    simp only[QW,Q8]at D;clear I V;first
    | go_simp
      exact hK _ _ BR rfl
    | have y0:W.cell? ⟨Y,ad+j,none⟩=some (.int .u8 z):=aj W f J
      have y1:Y<W.heap.size:=ai W f J;go_simp
      exact hK _ _ BR rfl
   any_goals exact .inl rfl
   all_goals refine .inr ?_
   ·intro A x W f V J hf I _ K hK;have bh:=gw V I 3 14;clear I V;have aY:f=false:=hf (by kernel_rfl);have g0:=qg ak.out (J.1 aY);have c0:W.cell? ⟨r,33,none⟩=some (.slice a1 (o.length+j) c1):=qd g0 33;go_simp
    exact hK _ _ BR rfl
   ·intro A x W f V J hf I _ K hK;have aV:=gw V I 8 19;clear I V;have a7:A.tmps[19]?.getD undef= .int .u8 z:=by rw[←Lh];exact aV
    go_simp
    exact hK _ _ (Br.alloc Nl _) ⟨W.heap.size,rfl,ac W f J,Wn W _⟩
  ·intro A x W V J I K hK;have aZ:=gw V I 4 15;have aS:(fun u W=> ∃q,u= .slice (some ⟨q,0,none⟩) 1 1∧wr.heap.size≤q∧W.heap[q]? =some (.cells #[.int .u8 z] 5 (0,0))) (x 20) W:=I ⟨9,.data⟩ (by simp) rfl;have aO:A.tmps.getD 20 undef=x 20:=V.1 20 (by decide);clear I V;have hB:=J.1 rfl;have ho:=qi ax.out (fun g _ hg=>hB.block g hg);have g0:=qg ak.out hB;obtain⟨qb,eq,bj,aX⟩:=aS;refine yx _ _ 24 rfl 0 5 i0 (.int .u8 0) 1 Tryz.underlying24 hi aL aN aJ rfl (.slice a1 (o.length+j) c1) (o.length+j) ((o++G.take j).map qt) aZ ho (.slice (some ⟨qb,0,none⟩) 1 1) 1 [.int .u8 z] (aO.trans eq) ⟨rfl,by simp[Value.oneCell'],.inr ⟨⟨qb,0,none⟩,1,rfl,zJ aX⟩⟩ (by unfold maxLen;omega) (by omega) (Nat.zero_le _) ?_;intro v' w' h1 h2 X;have h4:w'.heap[r]? =some (.cells (rN (kB big) v sa pe kv la (.slice a1 (o.length+j) c1) O) 254 (0,0)):=(h2.block r (Ai g0).1 (qdb ho g0 (by decide))).trans g0;have h5:w'.ownsRow 0 5 1 v' (o.length+(j+1)) ((o++G.take (j+1)).map qt):=by rw[aP.out,HZ.out,List.map_append,←Nat.add_assoc];exact h1
   have h6: ∀b,(Value.slice a1 (o.length+j) c1).ownBlock=some b→b<wr.heap.size:=fun b U=>qiW ax.out U
   refine hK v' w' (fun h=>by cases h) ⟨fun h=>(by cases h),fun _=>⟨h4,(Spare.of_below _ hB).trans (Spare.of_grown h2) (fun _ _ h=>h)⟩⟩ ⟨.inr (fun _ h=>h),.inr (fun _ h=>h),.inr (fun _ h=>h),.inr (fun _ h=>h),.inr (fun _ h=>h),.inr (fun _ h=>h),.inr (fun _ h=>h),.inr (fun _ h=>h),.inr (fun _ h=>h),.inr (fun u h=>by obtain⟨q,e,k1,k2⟩:=h;exact⟨q,e,k1,(h2.block q (Ai k2).1 (fun e2=>by have:=h6 q e2.symm;omega)).trans k2⟩),.inl rfl,trivial⟩ ⟨h5,?_⟩;rcases X with X|X
   ·exact .inl X
   ·refine .inr fun g hg=>?_
    rw[X]at hg;cases hg;exact hB.size
  intro x W J aC;obtain⟨az,aa, -⟩:=aC;change (fun u W=> ∃q,u= .slice (some ⟨q,0,none⟩) 1 1∧wr.heap.size≤q∧W.heap[q]? =some (.cells #[.int .u8 z] 5 (0,0))) (x 20) W at az
  change ((fun u W=>W.ownsRow 0 5 1 u (o.length+(j+1)) ((o++G.take (j+1)).map qt)∧(u.ownBlock=(Value.slice a1 (o.length+j) c1).ownBlock∨ ∀g,u.ownBlock=some g→wr.heap.size≤g))) (x 21) W at aa
  obtain⟨af,ao⟩:=J.2 rfl;obtain⟨ab,ag⟩:=aa;obtain⟨a3,n3,c3,aa⟩:=qs ab;rw[aa]at ab ag;obtain rfl:n3=o.length+(j+1):=yY ab;refine qp ?_;simp only[QF,Act.put,Ls,aa];clear aa az;have aT:W.cell? ⟨r,33,none⟩=some (.slice a1 (o.length+j) c1):=qd af 33;have aU:=frozen_of_row W r 33 _ _ af;have aW:r<W.heap.size:=(Ai af).1;have aA:=hid af;have aK:=hid ab;have aD:=hid ag;have aE:=hid ao;clear af ab ag ao J aj ai ac;go_wp2_with fail
  refine qp ?_;go_wp2_with fail
  refine qp ?_;go_wp2_with fail
  refine qw ?_;have au:But r W (W.setCell ⟨r,33,none⟩ (.slice a3 (o.length+(j+1)) c3)):=(But.refl r W).set 33 _;have a5:=hid (show Yd big (W.setCell ⟨r,33,none⟩ (.slice a3 (o.length+(j+1)) c3)) r v sa pe kv la (.slice a3 (o.length+(j+1)) c3) O from qct aA.out);have aH:=hid (Yk aK.out au aA.out (by decide));have aQ:=hid (show(Value.slice a3 (o.length+(j+1)) c3).ownBlock=mv.ownBlock∨ ∀g,(Value.slice a3 (o.length+(j+1)) c3).ownBlock=some g→w.heap.size≤g from by
   rcases aD.out with X|X
   ·rw[X];exact av.out
   ·exact .inr fun g hg=>Nat.le_trans ah.out.size (X g hg))
  have aw:Spare S w (W.setCell ⟨r,33,none⟩ (.slice a3 (o.length+(j+1)) c3)):=by
   refine(ah.out.trans aE.out ?_).trans (Spare.of_but au) (fun b _ U=>by have h2:=ae.out;subst h2;exact U.1);intro b bo aM;have h2:=ae.out;subst h2;rcases av.out with X|X
   ·rw[X];exact aM.2
   ·intro e;have:=X b e;omega
  have aG:=hid aw;clear au aw aT aU aW;generalize W.setCell ⟨r,33,none⟩ (.slice a3 (o.length+(j+1)) c3)=W8 at*;go_wp2
  exact⟨⟨j+1,rfl,by omega,⟨_,a5.out,aH.out,aQ.out⟩,aG.out⟩,by simp[intOf];omega⟩
theorem qgg (big:Bool)(v:Nat→Nat)(a1 a2:Option Addr)(G D c1 c2:Nat)(o:List Int)(kv:Value)(w:World)(hP:ParOk big v)(ak:G≤sB big)(ad:D≤sB big)(hK:Hold w kv o)(al:o.length≤mB big)(hk:o.length=0∨o.length=v 2):
  Calls Tryz.prog 153 #[.int .i64 (kB big),parN v (.slice a1 G c1) (.slice a2 D c2),kv] w fun e w'=> ∃r mv,e= .returned (.tuple #[.pointer (some ⟨r,0,none⟩),.int .i64 0])∧w.heap.size≤r∧Yd big w' r v (.slice a1 G c1) (.slice a2 D c2) kv false mv 0∧w'.ownsRow w.heap.size 5 1 mv (yv (bB big) o).length ((yv (bB big) o).map qt)∧Below w.heap.size w w':=by
 obtain⟨I,Y⟩:=Ex w.heap.size;obtain⟨ka,kc,rfl,ar,aq⟩:=hK.slice;have ab:=hid (Zx hP a1 a2 c1 c2 ak ad);have ai:Below I w (w.alloc (.cells #[.int .i64 (v 1:Nat),.int .i64 (v 2:Nat),.int .i64 (v 3:Nat),.int .i64 (v 4:Nat),.int .u32 (v 5:Nat),.int .u64 (v 6:Nat),.int .u32 (v 7:Nat),.int .i64 (v 8:Nat),.int .i64 (v 9:Nat),.slice a1 G c1,.slice a2 D c2] 171)):=by rw[←Y];exact Br.alloc Nl _
 have U:=Wn w (.cells #[.int .i64 (v 1:Nat),.int .i64 (v 2:Nat),.int .i64 (v 3:Nat),.int .i64 (v 4:Nat),.int .u32 (v 5:Nat),.int .u64 (v 6:Nat),.int .u32 (v 7:Nat),.int .i64 (v 8:Nat),.int .i64 (v 9:Nat),.slice a1 G c1,.slice a2 D c2] 171);rw[Y]at U;have hq:(((o.length:Int) != 0)&&((o.length:Int) != (v 2:Nat)))=false:=by rcases hk with h|h<;>simp[h]
 obtain⟨q0,aD⟩: ∃q,((o.length:Int) != 0)=q:=⟨_,rfl⟩;obtain⟨q1,az⟩: ∃q,((o.length:Int) != (v 2:Nat))=q:=⟨_,rfl⟩;rw[aD,az]at hq;have aE:=hid hK;have ap:=hid al;clear hP ak ad hK al hk ar aq;unfold parN parV;unfold parN parV at ab;go_enter Tryz.func153,Tryz.ntmps153
 go_upto_region 1 with(fail)
 generalize w.alloc (.cells #[.int .i64 (v 1:Nat),.int .i64 (v 2:Nat),.int .i64 (v 3:Nat),.int .i64 (v 4:Nat),.int .u32 (v 5:Nat),.int .u64 (v 6:Nat),.int .u32 (v 7:Nat),.int .i64 (v 8:Nat),.int .i64 (v 9:Nat),.slice a1 G c1,.slice a2 D c2] 171)=wA at*;go_wp2_with ((with_reducible show wpList _ _ _ (Oper.mk _ (Op.load 171 _) _ _ _ _::_) _ _);refine wpList_load_row rfl 171 _ rfl I rfl _ _ _ _ U Tryz.underlying171 rfl (by kernel_rfl) ?_)
 refine(ab.out wA).mono ?_;rintro e w1 ⟨rfl,Z⟩;have X:=qg U Z;have ay:=Z.size;have ao:I<wA.heap.size:=(Ai U).1;have an:I<w1.heap.size:=by omega
 have ah:Below I w w1:=ai.trans (Z.mono (by omega));have aw:w1.cell? ⟨I,1,none⟩=some (.int .i64 (v 2:Nat)):=qd X 1;have ag:=hid ah;have aB:=hid X;clear Z ai U ah ay ao ab
 cases q0<;>cases q1<;>first|(exfalso;cases hq;done)|skip
 all_goals
  clear hq;go_upto_region 7 with((with_reducible show wpList _ _ _ (Oper.mk _ (Op.load 171 _) _ _ _ _::_) _ _);refine wpList_load_row rfl 171 _ rfl I rfl _ _ _ _ X Tryz.underlying171 rfl (by kernel_rfl) ?_)
  change Code.wp _ _ _ _ (w1.alloc (.cells (rN (kB big) v (.slice a1 G c1) (.slice a2 D c2) (.slice ka o.length kc) false (.slice none 0 0) 0) 254))
  have V:Yd big (w1.alloc (.cells (rN (kB big) v (.slice a1 G c1) (.slice a2 D c2) (.slice ka o.length kc) false (.slice none 0 0) 0) 254)) w1.heap.size v (.slice a1 G c1) (.slice a2 D c2) (.slice ka o.length kc) false (.slice none 0 0) 0:=Wn _ _;have aa:Below I w (w1.alloc (.cells (rN (kB big) v (.slice a1 G c1) (.slice a2 D c2) (.slice ka o.length kc) false (.slice none 0 0) 0) 254)):=ag.out.alloc (by omega) _;obtain⟨r,aC⟩:=Ex w1.heap.size;rw[aC]at V an⊢;generalize (w1.alloc (.cells (rN (kB big) v (.slice a1 G c1) (.slice a2 D c2) (.slice ka o.length kc) false (.slice none 0 0) 0) 254))=W2 at*;have av:=hid V;have aG:=hid aa;have aj:=(aE.out.below (Y▸aa));have au:=hid aj;have aH:r<W2.heap.size:=(Ai V).1;clear V aa aj aw aB X ag;go_wp2_with fail
  refine(qdR big o _ W2 au.out ap.out).mono ?_;rintro e J ⟨mv,rfl,ho,ac⟩;obtain⟨ma,mn,mc,rfl⟩:=qs ho;have O:=qg av.out ac;have aI:J.cell? ⟨r,33,none⟩=some (.slice none 0 0):=qd O 33;have aJ:=frozen_of_row J r 33 _ _ O;have aK:r<J.heap.size:=(Ai O).1;have am:Below I w J:=aG.out.trans (ac.mono (by omega));have af:But r J (J.setCell ⟨r,33,none⟩ (.slice ma mn mc)):=(But.refl r J).set 33 _;have ae:(J.setCell ⟨r,33,none⟩ (.slice ma mn mc)).ownsRow w.heap.size 5 1 (.slice ma mn mc) (yv (bB big) o).length ((yv (bB big) o).map qt):=by
   rcases ho.2 with⟨h2,h3⟩|⟨g,ax,aA,h2,h3,h4,h5⟩
   ·exact⟨ho.1,.inl ⟨h2,h3⟩⟩
   ·refine⟨ho.1,.inr ⟨g,ax,aA,h2,by omega,?_,h5⟩⟩;rw[af.block g (Ai h4).1 (by omega)];exact h4
  have HF:=hid (show Yd big (J.setCell ⟨r,33,none⟩ (.slice ma mn mc)) r v (.slice a1 G c1) (.slice a2 D c2) (.slice ka o.length kc) false (.slice ma mn mc) 0 from qct O);have HO:=hid ae;have aF:=hid (show Below I w (J.setCell ⟨r,33,none⟩ (.slice ma mn mc)) from am.setCell (by show I≤r;omega) _);clear ho ac O am af ae;go_wp2
  go_ret2
  exact⟨r,_,rfl,by omega,HF.out,HO.out,by rw[Y];exact aF.out⟩
theorem Zg {P:Program}{fn:Func}{p D G q:Tmp}{o:TypeId}(h:fn.results= #[.cell p o,.tmp D,.tmp G,.tmp q])(tmps:Array Value)(w:World)(g:Nat)(t:TypeId)(cs:Array Value)(fr:Nat×Nat)(d:TypeDesc)
  (U:tmps.getD p undef= .pointer (some ⟨g,0,none⟩)) (J:w.heap[g]? =some (.cells cs t fr))
  (V:P.underlying o=some d) (O:(match d with| .struct _| .array _ _=>true|_=>false)=true) (I:(P.info? o).map (·.size)=some cs.size):
  (results fn tmps).run P w= .ok (.tuple #[.agg cs,tmps.getD D undef,tmps.getD G undef,tmps.getD q undef]) w:=by
 have r:tmps[p]?.getD undef= .pointer (some ⟨g,0,none⟩):=by simpa using U
 simp[results,h,r,asAddr,run_loadVar_row w g t o cs fr d J V O I]
theorem qhw {n L k:Nat}(D:0<n)(G:k≤nbk n L):(n*k+n<L↔k<nbk n L):=by
 have q:=Yg D L;have e:n*(k+1)=n*k+n:=Nat.mul_succ _ _;constructor
 ·intro h;refine Nat.lt_of_le_of_ne G fun r=>?_
  rw[r]at h;omega
 ·intro h;have I:n*(k+1)≤n*nbk n L:=Nat.mul_le_mul_left _ h;by_cases o:0<L
  ·have:=q.2.2 o;omega
  ·have:L=0:=by omega
   subst this;rw[qd4]at h;omega
theorem qbk (v:Nat→Nat)(z1 z2 o:List Int)(sa pe kv mv:Value)(la:Bool)(ak:Int)(G:Nat)(w:World)(hN:Yd true w G v sa pe kv la mv ak)(hP:ParOk true v)(h1:Hold w sa z1)(h2:Hold w pe z2)(aM:z1.length≤16)(aB:z2.length≤16)(hM:Hold w mv o)(aY:(o.length:Int)≤281474976710656):
  Calls Tryz.prog 176 #[.pointer (some ⟨G,0,none⟩)] w fun e w'=>e= .returned (.tuple #[.agg (qj .u64 (qL (stZ true (h0Z true (Q4 true v z1 z2)) o (nbk 128 o.length)))),.int .u64 ((128*nbk 128 o.length:Nat):Int),.int .u64 0,.int .i64 ((128*nbk 128 o.length:Nat):Int)])∧Below w.heap.size w w':=by
 obtain⟨U,Y⟩:=Ex w.heap.size;obtain⟨ma,mc,rfl,aT,aV⟩:=hM.slice;have aI:G<U:=by rw[←Y];exact(Ai hN).1
 have aL:=fun(W:World) (J:Below U w W)=>qb5 v z1 z2 sa pe kv (.slice ma o.length mc) la ak G W ((J.block G aI).trans hN) hP (h1.below (Y▸J)) (h2.below (Y▸J)) aM aB
 have aE:=fun(W:World) (J:Below U w W)=>hM.below (Y▸J)
 have ah:=QX true (Q4 true v z1 z2);generalize h0Z true (Q4 true v z1 z2)=V at*;have aA:=fun k=>yX true ah o k
 obtain⟨Q,hQ⟩:=Ex (nbk 128 o.length);have aa:=fun(k:Nat) (hk:k≤Q)=>(hQ▸qhw (n:=128) (L:=o.length) (by decide) (hQ▸hk):(128*k+128<o.length↔k<Q))
 have bu:128*Q≤o.length:=by rw[←hQ];exact(Yg (by decide) _).1
 rw[hQ];have aD:w.heap[G]? =some (.cells (rN 1 v sa pe kv la (.slice ma o.length mc) ak) 254 (0,0)):=hN;have ap:=hid aL;have aP:=hid aE;have ar:=hid aA;have aQ:=hid aa;have aS:=hid aD;have ba:=hid hM.1;clear hN aD aL aE aA hQ aa hP h1 h2 hM aT aV aM aB;go_enter Tryz.func176,Tryz.ntmps176
 go_wp2_with fail
 have ax:Below U w (w.alloc (.cells #[.int .u64 0,.int .u64 0,.int .u64 0,.int .u64 0,.int .u64 0,.int .u64 0,.int .u64 0,.int .u64 0,.int .u64 0,.int .u64 0,.int .u64 0,.int .u64 0,.int .u64 0,.int .u64 0,.int .u64 0,.int .u64 0] 252)):=by rw[←Y];exact Br.alloc Nl _
 have r0:(w.alloc (.cells #[.int .u64 0,.int .u64 0,.int .u64 0,.int .u64 0,.int .u64 0,.int .u64 0,.int .u64 0,.int .u64 0,.int .u64 0,.int .u64 0,.int .u64 0,.int .u64 0,.int .u64 0,.int .u64 0,.int .u64 0,.int .u64 0] 252)).heap[U]? =some (.cells #[.int .u64 0,.int .u64 0,.int .u64 0,.int .u64 0,.int .u64 0,.int .u64 0,.int .u64 0,.int .u64 0,.int .u64 0,.int .u64 0,.int .u64 0,.int .u64 0,.int .u64 0,.int .u64 0,.int .u64 0,.int .u64 0] 252 (0,0)):=by rw[←Y];exact Wn _ _
 have aZ:(w.alloc (.cells #[.int .u64 0,.int .u64 0,.int .u64 0,.int .u64 0,.int .u64 0,.int .u64 0,.int .u64 0,.int .u64 0,.int .u64 0,.int .u64 0,.int .u64 0,.int .u64 0,.int .u64 0,.int .u64 0,.int .u64 0,.int .u64 0] 252)).heap.size=U+1:=by simp[Y]
 generalize (w.alloc (.cells #[.int .u64 0,.int .u64 0,.int .u64 0,.int .u64 0,.int .u64 0,.int .u64 0,.int .u64 0,.int .u64 0,.int .u64 0,.int .u64 0,.int .u64 0,.int .u64 0,.int .u64 0,.int .u64 0,.int .u64 0,.int .u64 0] 252))=W1 at*;refine(ap.out W1 ax).mono ?_;rintro e w2 ⟨rfl,aj⟩;have ab:=aj.size;have aK:=qg r0 aj;have aJ:=ax.trans (aj.mono (by omega));have R0:=hid aK;have aH:=hid aJ;clear ax r0 aj aK aJ ap;have az:=hid (Qb (by decide) ah);clear ah;go_upto_region 2 with((with_reducible show wpList _ _ _ (Oper.mk none (Op.store 252 _ _) _ _ _ _::_) _ _);refine wpList_store_row rfl 252 _ _ rfl w2.heap.size (qj .u64 (qL V)) rfl rfl 252 _ (Wn _ _) (by rw[qf,az.out.1];kernel_rfl) (by rw[qf,az.out.1];rfl) qy ?_)
 refine qn ?_;intro W O;obtain⟨b6,an⟩:=Ex w2.heap.size;have m6:W.heap[b6]? =some (.cells (qj .u64 (qL (stZ true V o 0))) 252 (0,0)):=by rw[O,←an];exact setRow_heap _ _ _ _ _ _ (Wn _ _)
 have m0:W.heap[U]? =some (.cells #[.int .u64 0,.int .u64 0,.int .u64 0,.int .u64 0,.int .u64 0,.int .u64 0,.int .u64 0,.int .u64 0,.int .u64 0,.int .u64 0,.int .u64 0,.int .u64 0,.int .u64 0,.int .u64 0,.int .u64 0,.int .u64 0] 252 (0,0)):=by rw[O];exact(setRow_other (w2.alloc _) _ _ _ (by omega)).trans ((Bh _ _ _ (by omega)).trans R0.out)
 have ad:Below U w W:=by rw[O];exact below_setRow (aH.out.alloc (by omega) _) (by omega) _
 have mn:W.heap[G]? =some (.cells (rN 1 v sa pe kv la (.slice ma o.length mc) ak) 254 (0,0)):=(ad.block G aI).trans aS.out;rw[an];have be:U<b6:=by omega
 have bt:b6<W.heap.size:=(Ai m6).1;have bg:W.cell? ⟨G,31,none⟩=some (.int .u64 0):=qd mn 31;have bj:W.cell? ⟨G,32,none⟩=some (.int .u64 0):=qd mn 32;have bn:W.cell? ⟨G,0,none⟩=some (.int .i64 1):=qd mn 0;have M6:=hid m6;have M0:=hid m0;have MN:=hid mn;have bc:=hid ad;clear O an m6 m0 mn ad R0 aH aZ ab;go_wp2_with fail
 refine(Y0 true _).mono ?_;rintro e w4 ⟨rfl,hw⟩;rw[hw];clear hw;rw[show((bB true:Nat):Int)=128 from rfl];go_wp2_with fail
 go_loopw [7,8,10] (fun lo hi at_ wr=> ∃k:Nat,lo= .int .u64 ((128*k:Nat):Int)∧hi= .int .u64 0∧at_= .int .i64 ((128*k:Nat):Int)∧k≤Q∧wr.heap[b6]? =some (.cells (qj .u64 (qL (stZ true V o k))) 252 (0,0))∧But b6 W wr) (fun _ _ at_ _=>o.length - (intOf at_).toNat)
 case atStart=>exact⟨0,rfl,rfl,rfl,Nat.zero_le _,M6.out,But.refl _ _⟩
 case round=>
  obtain⟨k,rfl,rfl,rfl,hk,ai,J⟩:=hrel;have aN:b6<wr.heap.size:=by have:=J.size;omega
  have hn:=(J.block G (by omega) (by omega)).trans MN.out;have a4:wr.cell? ⟨G,33,none⟩=some (.slice ma o.length mc):=qd hn 33;have aW:G<wr.heap.size:=by omega
  have aq:Below U w wr:=bc.out.trans (J.below (by omega) (by omega));have ac:=aQ.out k hk;have au:128*k≤128*Q:=Nat.mul_le_mul_left _ hk;obtain⟨s,hs⟩:=Ex (128*k);have ab:128*(k+1)=s+128:=by rw[←hs];exact Nat.mul_succ _ _
  have aR:=hid (show qam 128 o k=QH 128 ((o.drop s).take 128) by unfold qam;rw[hs]);have aG:=hid ab;have HS:=hid hs;rw[hs]at ac au⊢;have am:=ar.out k;have ag:stZ true V o (k+1)=yD true (stZ true V o k) (QH 128 ((o.drop s).take 128)) ((s+128:Nat):Int) false false:=by
   show yD true (stZ true V o k) (qam (bB true) o k) ((bB true*(k+1):Nat):Int) false false=_
   rw[show bB true=128 from rfl,aR.out,ab]
  have al:=hid ai;have a3:=hid J;have aC:=hid hn;have ae:=hid aq;have af:=hid am;have ay:=hid ag;clear hs ab;have bl:(s:Int)≤o.length:=by omega
  by_cases aa:k<Q
  case neg=>
   obtain rfl:k=Q:=by omega
   have bh: ¬((s:Int)+128<o.length):=by have:=ac;omega
   have n0:=(J.block U (by omega) (by omega)).trans M0.out;have I:=Qb (by decide) am;have bf:U<wr.heap.size:=by omega
   clear J hn aq am ag ac aa au;go_wp2_with (first|((with_reducible show wpList _ _ _ (Oper.mk (some 62) _ _ _ _ _::_) _ _);refine wpList_load_row rfl 252 _ rfl b6 rfl _ _ _ _ ai Tryz.underlying252 rfl (by rw[qf,I.1];kernel_rfl) ?_)|((with_reducible show wpList _ _ _ (Oper.mk none (Op.store 252 _ _) _ _ _ _::_) _ _);refine wpList_store_row rfl 252 _ _ rfl U (qj .u64 (qL (stZ true V o k))) rfl rfl 252 _ n0 (by rw[qf,I.1];kernel_rfl) (by rw[qf,I.1];rfl) qy ?_))
   exact Bp (Zg rfl _ _ U 252 _ _ _ rfl (setRow_heap _ _ _ _ _ _ n0) Tryz.underlying252 rfl (by rw[qf,I.1];kernel_rfl)) rfl ⟨by rw[show((128:Int)*(k:Int))=(s:Int) from by have:=HS.out;omega];rfl,by first|exact below_setRow ae.out Nl _|(rw[Y];exact below_setRow ae.out Nl _)⟩
  have bd:(s:Int)+128<o.length:=by have:=ac.2 aa;omega
  have ao:(s:Int)+128<9223372036854775808:=by omega
  have aU:=hid ao;clear ai J hn aq am ag ac au ao;go_wp2_with fail
  refine(jB s 128 (by omega) _).mono ?_;rintro e w4 ⟨rfl,hw⟩;rw[hw];clear hw;go_upto_region 8 with(fail)
  refine qE (n:=15) (w0:=wr) (B:=wr.heap.size) [.v 44 (.pointer (some ⟨G,0,none⟩)),.v 45 (.pointer (some ⟨G,0,none⟩)),.v 46 (.pointer (some ⟨G,0,none⟩)),.v 47 (.int .i64 1),.v 48 (.agg (qj .u64 (qL (stZ true V o k)))),.v 49 (.pointer (some ⟨G,0,none⟩)),.v 50 (.pointer (some ⟨G,0,none⟩)),.v 51 (.pointer (some ⟨G,33,none⟩)),.v 52 (.slice ma o.length mc),.v 53 (.int .i64 (s:Nat)),.v 54 (.int .i64 128),.p 55 (fun u W=>W.ownsRow wr.heap.size 5 1 u 128 ((QH 128 ((o.drop s).take 128)).map qt)),.v 56 (.int .u64 ((s:Int)+128)),.v 57 (.int .u64 0),.v 58 (.agg (qj .u64 (qL (stZ true V o (k+1)))))] (by exact⟨(fun _ _ _ h J=>qi h (fun g _ hg=>J.block g hg)),trivial⟩) Br.drew Nl ?_ ?_
  ·repeat' (with_reducible first|exact qz|refine qx ?_ ?_)
   all_goals try
    intro A x W r O X q D K Z;have a0:=r.2 0 (by decide);conv at a0=>rhs;whnf
    have a5:=r.2 10 (by decide);conv at a5=>rhs;whnf
    have a9:=r.2 9 (by decide);conv at a9=>rhs;whnf
    have a7:=r.2 7 (by decide);conv at a7=>rhs;whnf
    have a8:=r.2 8 (by decide);conv at a8=>rhs;whnf
    simp only[QW,Q8]at D;clear q r;go_simp
    exact Z _ _ BR rfl
   ·intro A x W r O X q _ K Z;have bm:=gv r q 2 46;clear q r;have g0:=qg aC.out O;have c0:W.cell? ⟨G,0,none⟩=some (.int .i64 1):=qd g0 0;go_simp
    exact Z _ _ BR rfl
   ·intro A x W r O X q _ K Z;have a6:=r.2 6 (by decide);conv at a6=>rhs;whnf
    clear q r;have g0:=qg al.out O;have I:=Qb (by decide) af.out;refine wp_load_row 252 _ rfl b6 a6 _ _ _ _ g0 Tryz.underlying252 rfl (by rw[qf,I.1];kernel_rfl) (Z _ _ Br rfl)
   ·intro A x W r O X q _ K Z;have br:=gv r q 7 51;clear q r;have g0:=qg aC.out O;have c0:W.cell? ⟨G,33,none⟩=some (.slice ma o.length mc):=qd g0 33;go_simp
    exact Z _ _ BR rfl
   ·intro A x W r O X q _ K Z;have bk:=gv r q 8 52;have bo:=gv r q 9 53;have bi:=gv r q 10 54;clear q r;go_simp
    refine(jA o _ s 128 W (aP.out W (ae.out.trans (O.mono (by omega)))) (by decide) (by omega) aY).mono ?_;rintro e w' ⟨u,rfl,ho,J⟩;exact Z _ _ J (ownsRow_le ho X)
   ·intro A x W r O X q _ K Z;have bq:=gv r q 3 47;have bv:=gv r q 4 48;have bb:(fun u W=>W.ownsRow wr.heap.size 5 1 u 128 ((QH 128 ((o.drop s).take 128)).map qt)) (x 55) W:=q ⟨11,.data⟩ (by simp) rfl _ rfl;have bp:A.tmps.getD 55 undef=x 55:=r.1 55 (by decide);have bs:=gv r q 12 56;have bw:=gv r q 13 57;clear q r;have aX:=yl (n:=128) (zs:=(o.drop s).take 128) (fun z hz=>ba.out z (List.mem_of_mem_drop (List.mem_of_mem_take hz)));go_simp
    rw[show(s:Int)+128=((s+128:Nat):Int) from rfl];refine(qbp (stZ true V o k) (QH 128 ((o.drop s).take 128)) af.out _ (s+128) aU.out false false W (Q7 bb) aX (QM (List.length_take_le _ _))).mono ?_;rintro e w' ⟨rfl,J⟩;rw[←ay.out];exact Z _ _ J rfl
  intro x W O X aO;obtain⟨aF, -⟩:=aO;change (fun u W=>W.ownsRow wr.heap.size 5 1 u 128 ((QH 128 ((o.drop s).take 128)).map qt)) (x 55) W at aF
  refine qp ?_;simp only[QF,Act.put,Ls];have aw:=qg al.out O;have I:=Qb (by decide) (ar.out (k+1));have av:=Qb (by decide) af.out;refine wpList_store_row rfl 252 _ _ rfl b6 (qj .u64 (qL (stZ true V o (k+1)))) rfl rfl 252 _ aw (by rw[qf,I.1];kernel_rfl) (by rw[qf,qf,I.1,av.1]) qy ?_;refine qw ?_;have HA:=hid (setRow_heap _ b6 _ (qj .u64 (qL (stZ true V o (k+1)))) _ _ aw);have HC:=hid (a3.out.trans ((But.of_below O).trans (But.of_setRow _ b6 (qj .u64 (qL (stZ true V o (k+1)))))));clear aw I av aF O X a4 aW aN;go_wp2
  refine⟨⟨k+1,by rw[aG.out];rfl,rfl,by rw[aG.out];rfl,by omega,HA.out,HC.out⟩,?_⟩;simp[intOf];omega
theorem qaO (v:Nat→Nat)(z1 z2 o:List Int)(sa pe kv mv:Value)(la:Bool)(ak:Int)(G:Nat)(w:World)(hN:Yd false w G v sa pe kv la mv ak)(hP:ParOk false v)(h1:Hold w sa z1)(h2:Hold w pe z2)(aM:z1.length≤8)(aB:z2.length≤8)(hM:Hold w mv o)(aY:(o.length:Int)≤281474976710656):
  Calls Tryz.prog 176 #[.pointer (some ⟨G,0,none⟩)] w fun e w'=>e= .returned (.tuple #[.agg (qj .u64 (qL (stZ false (h0Z false (Q4 false v z1 z2)) o (nbk 64 o.length)))),.int .u64 ((64*nbk 64 o.length:Nat):Int),.int .u64 0,.int .i64 ((64*nbk 64 o.length:Nat):Int)])∧Below w.heap.size w w':=by
 obtain⟨U,Y⟩:=Ex w.heap.size;obtain⟨ma,mc,rfl,aT,aV⟩:=hM.slice;have aI:G<U:=by rw[←Y];exact(Ai hN).1
 have aL:=fun(W:World) (J:Below U w W)=>qbs v z1 z2 sa pe kv (.slice ma o.length mc) la ak G W ((J.block G aI).trans hN) hP (h1.below (Y▸J)) (h2.below (Y▸J)) aM aB
 have aE:=fun(W:World) (J:Below U w W)=>hM.below (Y▸J)
 have ah:=QX false (Q4 false v z1 z2);generalize h0Z false (Q4 false v z1 z2)=V at*;have aA:=fun k=>yX false ah o k
 obtain⟨Q,hQ⟩:=Ex (nbk 64 o.length);have aa:=fun(k:Nat) (hk:k≤Q)=>(hQ▸qhw (n:=64) (L:=o.length) (by decide) (hQ▸hk):(64*k+64<o.length↔k<Q))
 have bu:64*Q≤o.length:=by rw[←hQ];exact(Yg (by decide) _).1
 rw[hQ];have aD:w.heap[G]? =some (.cells (rN 2 v sa pe kv la (.slice ma o.length mc) ak) 254 (0,0)):=hN;have ap:=hid aL;have aP:=hid aE;have ar:=hid aA;have aQ:=hid aa;have aS:=hid aD;have ba:=hid hM.1;clear hN aD aL aE aA hQ aa hP h1 h2 hM aT aV aM aB;go_enter Tryz.func176,Tryz.ntmps176
 go_wp2_with fail
 have ax:Below U w (w.alloc (.cells #[.int .u64 0,.int .u64 0,.int .u64 0,.int .u64 0,.int .u64 0,.int .u64 0,.int .u64 0,.int .u64 0,.int .u64 0,.int .u64 0,.int .u64 0,.int .u64 0,.int .u64 0,.int .u64 0,.int .u64 0,.int .u64 0] 252)):=by rw[←Y];exact Br.alloc Nl _
 have r0:(w.alloc (.cells #[.int .u64 0,.int .u64 0,.int .u64 0,.int .u64 0,.int .u64 0,.int .u64 0,.int .u64 0,.int .u64 0,.int .u64 0,.int .u64 0,.int .u64 0,.int .u64 0,.int .u64 0,.int .u64 0,.int .u64 0,.int .u64 0] 252)).heap[U]? =some (.cells #[.int .u64 0,.int .u64 0,.int .u64 0,.int .u64 0,.int .u64 0,.int .u64 0,.int .u64 0,.int .u64 0,.int .u64 0,.int .u64 0,.int .u64 0,.int .u64 0,.int .u64 0,.int .u64 0,.int .u64 0,.int .u64 0] 252 (0,0)):=by rw[←Y];exact Wn _ _
 have aZ:(w.alloc (.cells #[.int .u64 0,.int .u64 0,.int .u64 0,.int .u64 0,.int .u64 0,.int .u64 0,.int .u64 0,.int .u64 0,.int .u64 0,.int .u64 0,.int .u64 0,.int .u64 0,.int .u64 0,.int .u64 0,.int .u64 0,.int .u64 0] 252)).heap.size=U+1:=by simp[Y]
 generalize (w.alloc (.cells #[.int .u64 0,.int .u64 0,.int .u64 0,.int .u64 0,.int .u64 0,.int .u64 0,.int .u64 0,.int .u64 0,.int .u64 0,.int .u64 0,.int .u64 0,.int .u64 0,.int .u64 0,.int .u64 0,.int .u64 0,.int .u64 0] 252))=W1 at*;refine(ap.out W1 ax).mono ?_;rintro e w2 ⟨rfl,aj⟩;have ab:=aj.size;have aK:=qg r0 aj;have aJ:=ax.trans (aj.mono (by omega));have R0:=hid aK;have aH:=hid aJ;clear ax r0 aj aK aJ ap;have az:=hid (Qb (by decide) ah);clear ah;go_upto_region 2 with((with_reducible show wpList _ _ _ (Oper.mk none (Op.store 252 _ _) _ _ _ _::_) _ _);refine wpList_store_row rfl 252 _ _ rfl w2.heap.size (qj .u64 (qL V)) rfl rfl 252 _ (Wn _ _) (by rw[qf,az.out.1];kernel_rfl) (by rw[qf,az.out.1];rfl) qy ?_)
 refine qn ?_;intro W O;obtain⟨b6,an⟩:=Ex w2.heap.size;have m6:W.heap[b6]? =some (.cells (qj .u64 (qL (stZ false V o 0))) 252 (0,0)):=by rw[O,←an];exact setRow_heap _ _ _ _ _ _ (Wn _ _)
 have m0:W.heap[U]? =some (.cells #[.int .u64 0,.int .u64 0,.int .u64 0,.int .u64 0,.int .u64 0,.int .u64 0,.int .u64 0,.int .u64 0,.int .u64 0,.int .u64 0,.int .u64 0,.int .u64 0,.int .u64 0,.int .u64 0,.int .u64 0,.int .u64 0] 252 (0,0)):=by rw[O];exact(setRow_other (w2.alloc _) _ _ _ (by omega)).trans ((Bh _ _ _ (by omega)).trans R0.out)
 have ad:Below U w W:=by rw[O];exact below_setRow (aH.out.alloc (by omega) _) (by omega) _
 have mn:W.heap[G]? =some (.cells (rN 2 v sa pe kv la (.slice ma o.length mc) ak) 254 (0,0)):=(ad.block G aI).trans aS.out;rw[an];have be:U<b6:=by omega
 have bt:b6<W.heap.size:=(Ai m6).1;have bg:W.cell? ⟨G,31,none⟩=some (.int .u64 0):=qd mn 31;have bj:W.cell? ⟨G,32,none⟩=some (.int .u64 0):=qd mn 32;have bn:W.cell? ⟨G,0,none⟩=some (.int .i64 2):=qd mn 0;have M6:=hid m6;have M0:=hid m0;have MN:=hid mn;have bc:=hid ad;clear O an m6 m0 mn ad R0 aH aZ ab;go_wp2_with fail
 refine(Y0 false _).mono ?_;rintro e w4 ⟨rfl,hw⟩;rw[hw];clear hw;rw[show((bB false:Nat):Int)=64 from rfl];go_wp2_with fail
 go_loopw [7,8,10] (fun lo hi at_ wr=> ∃k:Nat,lo= .int .u64 ((64*k:Nat):Int)∧hi= .int .u64 0∧at_= .int .i64 ((64*k:Nat):Int)∧k≤Q∧wr.heap[b6]? =some (.cells (qj .u64 (qL (stZ false V o k))) 252 (0,0))∧But b6 W wr) (fun _ _ at_ _=>o.length - (intOf at_).toNat)
 case atStart=>exact⟨0,rfl,rfl,rfl,Nat.zero_le _,M6.out,But.refl _ _⟩
 case round=>
  obtain⟨k,rfl,rfl,rfl,hk,ai,J⟩:=hrel;have aN:b6<wr.heap.size:=by have:=J.size;omega
  have hn:=(J.block G (by omega) (by omega)).trans MN.out;have a4:wr.cell? ⟨G,33,none⟩=some (.slice ma o.length mc):=qd hn 33;have aW:G<wr.heap.size:=by omega
  have aq:Below U w wr:=bc.out.trans (J.below (by omega) (by omega));have ac:=aQ.out k hk;have au:64*k≤64*Q:=Nat.mul_le_mul_left _ hk;obtain⟨s,hs⟩:=Ex (64*k);have ab:64*(k+1)=s+64:=by rw[←hs];exact Nat.mul_succ _ _
  have aR:=hid (show qam 64 o k=QH 64 ((o.drop s).take 64) by unfold qam;rw[hs]);have aG:=hid ab;have HS:=hid hs;rw[hs]at ac au⊢;have am:=ar.out k;have ag:stZ false V o (k+1)=yD false (stZ false V o k) (QH 64 ((o.drop s).take 64)) ((s+64:Nat):Int) false false:=by
   show yD false (stZ false V o k) (qam (bB false) o k) ((bB false*(k+1):Nat):Int) false false=_
   rw[show bB false=64 from rfl,aR.out,ab]
  have al:=hid ai;have a3:=hid J;have aC:=hid hn;have ae:=hid aq;have af:=hid am;have ay:=hid ag;clear hs ab;have bl:(s:Int)≤o.length:=by omega
  by_cases aa:k<Q
  case neg=>
   obtain rfl:k=Q:=by omega
   have bh: ¬((s:Int)+64<o.length):=by have:=ac;omega
   have n0:=(J.block U (by omega) (by omega)).trans M0.out;have I:=Qb (by decide) am;have bf:U<wr.heap.size:=by omega
   clear J hn aq am ag ac aa au;go_wp2_with (first|((with_reducible show wpList _ _ _ (Oper.mk (some 62) _ _ _ _ _::_) _ _);refine wpList_load_row rfl 252 _ rfl b6 rfl _ _ _ _ ai Tryz.underlying252 rfl (by rw[qf,I.1];kernel_rfl) ?_)|((with_reducible show wpList _ _ _ (Oper.mk none (Op.store 252 _ _) _ _ _ _::_) _ _);refine wpList_store_row rfl 252 _ _ rfl U (qj .u64 (qL (stZ false V o k))) rfl rfl 252 _ n0 (by rw[qf,I.1];kernel_rfl) (by rw[qf,I.1];rfl) qy ?_))
   exact Bp (Zg rfl _ _ U 252 _ _ _ rfl (setRow_heap _ _ _ _ _ _ n0) Tryz.underlying252 rfl (by rw[qf,I.1];kernel_rfl)) rfl ⟨by rw[show((64:Int)*(k:Int))=(s:Int) from by have:=HS.out;omega];rfl,by first|exact below_setRow ae.out Nl _|(rw[Y];exact below_setRow ae.out Nl _)⟩
  have bd:(s:Int)+64<o.length:=by have:=ac.2 aa;omega
  have ao:(s:Int)+64<9223372036854775808:=by omega
  have aU:=hid ao;clear ai J hn aq am ag ac au ao;go_wp2_with fail
  refine(jB s 64 (by omega) _).mono ?_;rintro e w4 ⟨rfl,hw⟩;rw[hw];clear hw;go_upto_region 8 with(fail)
  refine qE (n:=15) (w0:=wr) (B:=wr.heap.size) [.v 44 (.pointer (some ⟨G,0,none⟩)),.v 45 (.pointer (some ⟨G,0,none⟩)),.v 46 (.pointer (some ⟨G,0,none⟩)),.v 47 (.int .i64 2),.v 48 (.agg (qj .u64 (qL (stZ false V o k)))),.v 49 (.pointer (some ⟨G,0,none⟩)),.v 50 (.pointer (some ⟨G,0,none⟩)),.v 51 (.pointer (some ⟨G,33,none⟩)),.v 52 (.slice ma o.length mc),.v 53 (.int .i64 (s:Nat)),.v 54 (.int .i64 64),.p 55 (fun u W=>W.ownsRow wr.heap.size 5 1 u 64 ((QH 64 ((o.drop s).take 64)).map qt)),.v 56 (.int .u64 ((s:Int)+64)),.v 57 (.int .u64 0),.v 58 (.agg (qj .u64 (qL (stZ false V o (k+1)))))] (by exact⟨(fun _ _ _ h J=>qi h (fun g _ hg=>J.block g hg)),trivial⟩) Br.drew Nl ?_ ?_
  ·repeat' (with_reducible first|exact qz|refine qx ?_ ?_)
   all_goals try
    intro A x W r O X q D K Z;have a0:=r.2 0 (by decide);conv at a0=>rhs;whnf
    have a5:=r.2 10 (by decide);conv at a5=>rhs;whnf
    have a9:=r.2 9 (by decide);conv at a9=>rhs;whnf
    have a7:=r.2 7 (by decide);conv at a7=>rhs;whnf
    have a8:=r.2 8 (by decide);conv at a8=>rhs;whnf
    simp only[QW,Q8]at D;clear q r;go_simp
    exact Z _ _ BR rfl
   ·intro A x W r O X q _ K Z;have bm:=gv r q 2 46;clear q r;have g0:=qg aC.out O;have c0:W.cell? ⟨G,0,none⟩=some (.int .i64 2):=qd g0 0;go_simp
    exact Z _ _ BR rfl
   ·intro A x W r O X q _ K Z;have a6:=r.2 6 (by decide);conv at a6=>rhs;whnf
    clear q r;have g0:=qg al.out O;have I:=Qb (by decide) af.out;refine wp_load_row 252 _ rfl b6 a6 _ _ _ _ g0 Tryz.underlying252 rfl (by rw[qf,I.1];kernel_rfl) (Z _ _ Br rfl)
   ·intro A x W r O X q _ K Z;have br:=gv r q 7 51;clear q r;have g0:=qg aC.out O;have c0:W.cell? ⟨G,33,none⟩=some (.slice ma o.length mc):=qd g0 33;go_simp
    exact Z _ _ BR rfl
   ·intro A x W r O X q _ K Z;have bk:=gv r q 8 52;have bo:=gv r q 9 53;have bi:=gv r q 10 54;clear q r;go_simp
    refine(jA o _ s 64 W (aP.out W (ae.out.trans (O.mono (by omega)))) (by decide) (by omega) aY).mono ?_;rintro e w' ⟨u,rfl,ho,J⟩;exact Z _ _ J (ownsRow_le ho X)
   ·intro A x W r O X q _ K Z;have bq:=gv r q 3 47;have bv:=gv r q 4 48;have bb:(fun u W=>W.ownsRow wr.heap.size 5 1 u 64 ((QH 64 ((o.drop s).take 64)).map qt)) (x 55) W:=q ⟨11,.data⟩ (by simp) rfl _ rfl;have bp:A.tmps.getD 55 undef=x 55:=r.1 55 (by decide);have bs:=gv r q 12 56;have bw:=gv r q 13 57;clear q r;have aX:=yl (n:=64) (zs:=(o.drop s).take 64) (fun z hz=>ba.out z (List.mem_of_mem_drop (List.mem_of_mem_take hz)));go_simp
    rw[show(s:Int)+64=((s+64:Nat):Int) from rfl];refine(qav (stZ false V o k) (QH 64 ((o.drop s).take 64)) af.out _ (s+64) aU.out false false W (Q7 bb) aX (QM (List.length_take_le _ _))).mono ?_;rintro e w' ⟨rfl,J⟩;rw[←ay.out];exact Z _ _ J rfl
  intro x W O X aO;obtain⟨aF, -⟩:=aO;change (fun u W=>W.ownsRow wr.heap.size 5 1 u 64 ((QH 64 ((o.drop s).take 64)).map qt)) (x 55) W at aF
  refine qp ?_;simp only[QF,Act.put,Ls];have aw:=qg al.out O;have I:=Qb (by decide) (ar.out (k+1));have av:=Qb (by decide) af.out;refine wpList_store_row rfl 252 _ _ rfl b6 (qj .u64 (qL (stZ false V o (k+1)))) rfl rfl 252 _ aw (by rw[qf,I.1];kernel_rfl) (by rw[qf,qf,I.1,av.1]) qy ?_;refine qw ?_;have HA:=hid (setRow_heap _ b6 _ (qj .u64 (qL (stZ false V o (k+1)))) _ _ aw);have HC:=hid (a3.out.trans ((But.of_below O).trans (But.of_setRow _ b6 (qj .u64 (qL (stZ false V o (k+1)))))));clear aw I av aF O X a4 aW aN;go_wp2
  refine⟨⟨k+1,by rw[aG.out];rfl,rfl,by rw[aG.out];rfl,by omega,HA.out,HC.out⟩,?_⟩;simp[intOf];omega
theorem ZB (n:Nat){h g:List Int}: ∀i,(∀j,j<i→wd h j=wd g j)→qN n h i=qN n g i
 | 0,_=>rfl
 | i+1,H=>by rw[qN,qN,ZB n i (fun j o=>H j (by omega)),H i (by omega)]
theorem qdQ (v:Nat→Nat)(z1 z2 q:List Int)(sa pe kv mv:Value)(la:Bool)(aa:Int)(G:Nat)(w:World)(hN:Yd true w G v sa pe kv la mv aa)(hP:ParOk true v)(h1:Hold w sa z1)(h2:Hold w pe z2)(aA:z1.length≤16)(aq:z2.length≤16)(hM:Hold w mv q)(au:(q.length:Int)≤281474976710656):
  Calls Tryz.prog 156 #[.pointer (some ⟨G,0,none⟩)] w fun e w'=> ∃u,e= .returned u∧w'.ownsRow w.heap.size 5 1 u 64 ((zA true (h0Z true (Q4 true v z1 z2)) q la).map qt)∧Below w.heap.size w w':=by
 obtain⟨b0,ab⟩:=Ex w.heap.size;have af:=qbk v z1 z2 q sa pe kv mv la aa G w hN hP h1 h2 aA aq hM au;obtain⟨ma,mc,rfl,aH,aI⟩:=hM.slice;have aM:G<b0:=by rw[←ab];exact(Ai hN).1
 have av:=fun(W:World) (V:Below b0 w W)=>hM.below (ab▸V)
 have ap:=QX true (Q4 true v z1 z2);generalize h0Z true (Q4 true v z1 z2)=H0 at*;have ac:=yX true ap q (nbk 128 q.length);have ad:=Yg (n:=128) (by decide) q.length;have ao:zA true H0 q la=qN 8 (yD true (stZ true H0 q (nbk 128 q.length)) (QH 128 ((q.drop (128*nbk 128 q.length)).take 128)) (q.length:Int) true la) 8:=rfl;rw[ao];obtain⟨ST,al⟩:=Ex (stZ true H0 q (nbk 128 q.length));obtain⟨s,hs⟩:=Ex (128*nbk 128 q.length);rw[al,hs]at af⊢;rw[al]at ac;rw[hs]at ad;obtain⟨R,hR⟩:=Ex (yD true ST (QH 128 ((q.drop s).take 128)) (q.length:Int) true la);have ak:Words 64 8 R:=by rw[←hR];exact QV true ac _ _ _ _
 rw[hR];have az:qN 8 R 8=qN 8 (qL R) 8:=ZB 8 8 (fun j hj=>(qaY ak.1 hj).symm);rw[az];have a9:s≤q.length:=ad.1;have ar:w.heap[G]? =some (.cells (rN 1 v sa pe kv la (.slice ma q.length mc) aa) 254 (0,0)):=hN;have ay:=hM.1;have am:=hid af;have aD:=hid av;have aj:=hid ac;have aL:=hid hR;have aE:=hid ak;have aG:=hid ar;have aF:=hid ay;clear ao az al hs ad hR ak af av ac hN ar ay ap hP h1 h2 hM aH aI aA aq;go_enter Tryz.func156,Tryz.ntmps156
 go_wp2_with fail
 refine am.out.mono ?_;rintro e w2 ⟨rfl,ae⟩;have Z:=hid (Qb (by decide) aj.out);have ag:=ae.size;have aB:=hid ae;clear ae;go_upto_region 2 with((with_reducible show wpList _ _ _ (Oper.mk none (Op.store 252 _ _) _ _ _ _::_) _ _);refine wpList_store_row rfl 252 _ _ rfl w2.heap.size (qj .u64 (qL ST)) rfl rfl 252 _ (Wn _ _) (by rw[qf,Z.out.1];kernel_rfl) (by rw[qf,Z.out.1];rfl) qy ?_)
 refine qn ?_;intro U I;obtain⟨b3,an⟩:=Ex w2.heap.size;have m3:U.heap[b3]? =some (.cells (qj .u64 (qL ST)) 252 (0,0)):=by rw[I,←an];exact setRow_heap _ _ _ _ _ _ (Wn _ _)
 have Y:Below b0 w U:=by rw[I,←ab];exact below_setRow (aB.out.alloc ag _) ag _
 have mn:U.heap[G]? =some (.cells (rN 1 v sa pe kv la (.slice ma q.length mc) aa) 254 (0,0)):=(Y.block G aM).trans aG.out;rw[an];have aR:b0≤b3:=by omega
 have bi:b3<U.heap.size:=(Ai m3).1;have be:G<U.heap.size:=by omega
 have bc:U.cell? ⟨G,33,none⟩=some (.slice ma q.length mc):=qd mn 33;have M3:=hid m3;have MN:=hid mn;have ai:=hid Y;clear I an m3 mn Y aB ag am;have aU:(s:Int)≤q.length:=by omega
 have ah:((q.length:Int) - s)=((q.length - s:Nat):Int):=by omega
 have aK:IntKind.u64.wrap ((q.length:Int) - s)=((q.length - s:Nat):Int):=by rw[ah];exact u64_wrap_id _ (by omega) (by omega)
 have aS:=hid ah;clear ah;go_wp2_with fail
 refine(jB s (q.length - s) (by omega) _).mono ?_;rintro e w4 ⟨rfl,hw⟩;rw[hw];clear hw;rw[show s+(q.length - s)=q.length by omega];clear aK;go_upto_region 3 with(fail)
 refine qE (n:=29) (w0:=U) (B:=U.heap.size) [.v 29 (.pointer (some ⟨G,0,none⟩)),.v 30 (.pointer (some ⟨G,0,none⟩)),.v 31 (.pointer (some ⟨G,0,none⟩)),.v 32 (.int .i64 1),.v 33 (.pointer (some ⟨G,0,none⟩)),.v 34 (.pointer (some ⟨G,0,none⟩)),.v 35 (.pointer (some ⟨G,0,none⟩)),.v 36 (.int .i64 1),.v 37 (.agg (qj .u64 (qL ST))),.v 38 (.pointer (some ⟨G,0,none⟩)),.v 39 (.pointer (some ⟨G,0,none⟩)),.v 40 (.pointer (some ⟨G,33,none⟩)),.v 41 (.slice ma q.length mc),.v 42 (.int .i64 (s:Nat)),.v 43 (.pointer (some ⟨G,0,none⟩)),.v 44 (.pointer (some ⟨G,0,none⟩)),.v 45 (.pointer (some ⟨G,0,none⟩)),.v 46 (.int .i64 1),.v 47 (.int .i64 128),.p 48 (fun u W=>W.ownsRow U.heap.size 5 1 u 128 ((QH 128 ((q.drop s).take 128)).map qt)),.v 49 (.int .u64 (q.length:Nat)),.v 50 (.int .u64 0),.v 51 (.pointer (some ⟨G,0,none⟩)),.v 52 (.pointer (some ⟨G,0,none⟩)),.v 53 (.pointer (some ⟨G,13,none⟩)),.v 54 (.bool la),.v 55 (.agg (qj .u64 (qL R))),.p 56 (fun u W=>W.ownsRow U.heap.size 5 1 u 64 ((qN 8 (qL R) 8).map qt)),.p 2 (fun u W=>W.ownsRow U.heap.size 5 1 u 64 ((qN 8 (qL R) 8).map qt))] (by exact⟨(fun _ _ _ h V=>qi h (fun g _ hg=>V.block g hg)),(fun _ _ _ h V=>qi h (fun g _ hg=>V.block g hg)),(fun _ _ _ h V=>qi h (fun g _ hg=>V.block g hg)),trivial⟩) Br.drew Nl ?_ ?_
 ·repeat' (with_reducible first|exact qz|refine qx ?_ ?_)
  all_goals try
   intro A x W r I O o D K J;have a0:=r.2 0 (by decide);conv at a0=>rhs;whnf
   have a6:=r.2 6 (by decide);conv at a6=>rhs;whnf
   have a4:=r.2 4 (by decide);conv at a4=>rhs;whnf
   have a5:=r.2 5 (by decide);conv at a5=>rhs;whnf
   simp only[QW,Q8]at D;clear o r;go_simp
   exact J _ _ BR rfl
  ·intro A x W r I O o _ K J;have aY:=gv r o 2 31;clear o r;have X:=qg MN.out I;have c0:W.cell? ⟨G,0,none⟩=some (.int .i64 1):=qd X 0;go_simp
   exact J _ _ BR rfl
  ·intro A x W r I O o _ K J;have aX:=gv r o 6 35;clear o r;have X:=qg MN.out I;have c0:W.cell? ⟨G,0,none⟩=some (.int .i64 1):=qd X 0;go_simp
   exact J _ _ BR rfl
  ·intro A x W r I O o _ K J;have a3:=r.2 3 (by decide);conv at a3=>rhs;whnf
   clear o r;have X:=qg M3.out I;refine wp_load_row 252 _ rfl b3 a3 _ _ _ _ X Tryz.underlying252 rfl (by rw[qf,Z.out.1];kernel_rfl) (J _ _ Br rfl)
  ·intro A x W r I O o _ K J;have a8:=gv r o 11 40;clear o r;have X:=qg MN.out I;have c0:W.cell? ⟨G,33,none⟩=some (.slice ma q.length mc):=qd X 33;go_simp
   exact J _ _ BR rfl
  ·intro A x W r I O o _ K J;have a7:=gv r o 16 45;clear o r;have X:=qg MN.out I;have c0:W.cell? ⟨G,0,none⟩=some (.int .i64 1):=qd X 0;go_simp
   exact J _ _ BR rfl
  ·intro A x W r I O o _ K J;have ba:=gv r o 17 46;clear o r;go_simp
   refine(Y0 true _).mono ?_;rintro e w' ⟨rfl,hw⟩;exact J _ _ (by rw[hw];exact Below.refl _ _) rfl
  ·intro A x W r I O o _ K J;have bk:=gv r o 12 41;have bg:=gv r o 13 42;have bh:=gv r o 18 47;clear o r;go_simp
   refine(jA q _ s 128 W (aD.out W (ai.out.trans (I.mono (by omega)))) (by decide) (by omega) au).mono ?_;rintro e w' ⟨u,rfl,ho,V⟩;exact J _ _ V (ownsRow_le ho O)
  ·intro A x W r I O o _ K J;have bd:=gv r o 24 53;clear o r;have X:=qg MN.out I;have c0:W.cell? ⟨G,13,none⟩=some (.bool la):=qd X 13;go_simp
   exact J _ _ BR rfl
  ·intro A x W r I O o _ K J;have aZ:=gv r o 7 36;have bb:=gv r o 8 37;have aQ:(fun u W=>W.ownsRow U.heap.size 5 1 u 128 ((QH 128 ((q.drop s).take 128)).map qt)) (x 48) W:=o ⟨19,.data⟩ (by simp) rfl _ rfl;have bf:A.tmps.getD 48 undef=x 48:=r.1 48 (by decide);have aT:=gv r o 20 49;have bl:=gv r o 21 50;have aW:=gv r o 25 54;clear o r;have aJ:=yl (n:=128) (zs:=(q.drop s).take 128) (fun z hz=>aF.out z (List.mem_of_mem_drop (List.mem_of_mem_take hz)));go_simp
   refine(qbp ST (QH 128 ((q.drop s).take 128)) aj.out _ q.length (by omega) true la W (Q7 aQ) aJ (QM (List.length_take_le _ _))).mono ?_;rintro e w' ⟨rfl,V⟩;rw[aL.out];exact J _ _ V rfl
  ·intro A x W r I O o _ K J;have aV:=gv r o 3 32;have bj:=gv r o 26 55;clear o r;go_simp
   refine(qax true (qL R) (Qb (by decide) aE.out) _).mono ?_;rintro e w' ⟨u,rfl,ho,V⟩;exact J _ _ V (ownsRow_le ho O)
  ·intro A x W r I O o _ K J;have aO:(fun u W=>W.ownsRow U.heap.size 5 1 u 64 ((qN 8 (qL R) 8).map qt)) (x 56) W:=o ⟨27,.data⟩ (by simp) rfl _ rfl;have aN:A.tmps.getD 56 undef=x 56:=r.1 56 (by decide);clear o r;go_simp
   exact J _ _ Br (aN▸aO)
 intro x W I O aC;obtain⟨aw,ax,e2, -⟩:=aC;change (fun u W=>W.ownsRow U.heap.size 5 1 u 128 ((QH 128 ((q.drop s).take 128)).map qt)) (x 48) W at aw
 change (fun u W=>W.ownsRow U.heap.size 5 1 u 64 ((qN 8 (qL R) 8).map qt)) (x 56) W at ax
 change (fun u W=>W.ownsRow U.heap.size 5 1 u 64 ((qN 8 (qL R) 8).map qt)) (x 2) W at e2
 refine qw ?_;simp only[QF,Act.put,Ls];have E2:=hid (ownsRow_le e2 (show w.heap.size≤U.heap.size by omega));have aP:=hid (ai.out.trans (I.mono (by omega)));clear aw ax e2 I O;go_wp2
 go_ret
 exact⟨_,rfl,E2.out,by rw[ab];exact aP.out⟩
theorem qc4 (v:Nat→Nat)(z1 z2 q:List Int)(sa pe kv mv:Value)(la:Bool)(aa:Int)(G:Nat)(w:World)(hN:Yd false w G v sa pe kv la mv aa)(hP:ParOk false v)(h1:Hold w sa z1)(h2:Hold w pe z2)(aA:z1.length≤8)(aq:z2.length≤8)(hM:Hold w mv q)(au:(q.length:Int)≤281474976710656):
  Calls Tryz.prog 156 #[.pointer (some ⟨G,0,none⟩)] w fun e w'=> ∃u,e= .returned u∧w'.ownsRow w.heap.size 5 1 u 32 ((zA false (h0Z false (Q4 false v z1 z2)) q la).map qt)∧Below w.heap.size w w':=by
 obtain⟨b0,ab⟩:=Ex w.heap.size;have af:=qaO v z1 z2 q sa pe kv mv la aa G w hN hP h1 h2 aA aq hM au;obtain⟨ma,mc,rfl,aH,aI⟩:=hM.slice;have aM:G<b0:=by rw[←ab];exact(Ai hN).1
 have av:=fun(W:World) (V:Below b0 w W)=>hM.below (ab▸V)
 have ap:=QX false (Q4 false v z1 z2);generalize h0Z false (Q4 false v z1 z2)=H0 at*;have ac:=yX false ap q (nbk 64 q.length);have ad:=Yg (n:=64) (by decide) q.length;have ao:zA false H0 q la=qN 4 (yD false (stZ false H0 q (nbk 64 q.length)) (QH 64 ((q.drop (64*nbk 64 q.length)).take 64)) (q.length:Int) true la) 8:=rfl;rw[ao];obtain⟨ST,al⟩:=Ex (stZ false H0 q (nbk 64 q.length));obtain⟨s,hs⟩:=Ex (64*nbk 64 q.length);rw[al,hs]at af⊢;rw[al]at ac;rw[hs]at ad;obtain⟨R,hR⟩:=Ex (yD false ST (QH 64 ((q.drop s).take 64)) (q.length:Int) true la);have ak:Words 32 8 R:=by rw[←hR];exact QV false ac _ _ _ _
 rw[hR];have az:qN 4 R 8=qN 4 (qL R) 8:=ZB 4 8 (fun j hj=>(qaY ak.1 hj).symm);rw[az];have a9:s≤q.length:=ad.1;have ar:w.heap[G]? =some (.cells (rN 2 v sa pe kv la (.slice ma q.length mc) aa) 254 (0,0)):=hN;have ay:=hM.1;have am:=hid af;have aD:=hid av;have aj:=hid ac;have aL:=hid hR;have aE:=hid ak;have aG:=hid ar;have aF:=hid ay;clear ao az al hs ad hR ak af av ac hN ar ay ap hP h1 h2 hM aH aI aA aq;go_enter Tryz.func156,Tryz.ntmps156
 go_wp2_with fail
 refine am.out.mono ?_;rintro e w2 ⟨rfl,ae⟩;have Z:=hid (Qb (by decide) aj.out);have ag:=ae.size;have aB:=hid ae;clear ae;go_upto_region 2 with((with_reducible show wpList _ _ _ (Oper.mk none (Op.store 252 _ _) _ _ _ _::_) _ _);refine wpList_store_row rfl 252 _ _ rfl w2.heap.size (qj .u64 (qL ST)) rfl rfl 252 _ (Wn _ _) (by rw[qf,Z.out.1];kernel_rfl) (by rw[qf,Z.out.1];rfl) qy ?_)
 refine qn ?_;intro U I;obtain⟨b3,an⟩:=Ex w2.heap.size;have m3:U.heap[b3]? =some (.cells (qj .u64 (qL ST)) 252 (0,0)):=by rw[I,←an];exact setRow_heap _ _ _ _ _ _ (Wn _ _)
 have Y:Below b0 w U:=by rw[I,←ab];exact below_setRow (aB.out.alloc ag _) ag _
 have mn:U.heap[G]? =some (.cells (rN 2 v sa pe kv la (.slice ma q.length mc) aa) 254 (0,0)):=(Y.block G aM).trans aG.out;rw[an];have aR:b0≤b3:=by omega
 have bi:b3<U.heap.size:=(Ai m3).1;have be:G<U.heap.size:=by omega
 have bc:U.cell? ⟨G,33,none⟩=some (.slice ma q.length mc):=qd mn 33;have M3:=hid m3;have MN:=hid mn;have ai:=hid Y;clear I an m3 mn Y aB ag am;have aU:(s:Int)≤q.length:=by omega
 have ah:((q.length:Int) - s)=((q.length - s:Nat):Int):=by omega
 have aK:IntKind.u64.wrap ((q.length:Int) - s)=((q.length - s:Nat):Int):=by rw[ah];exact u64_wrap_id _ (by omega) (by omega)
 have aS:=hid ah;clear ah;go_wp2_with fail
 refine(jB s (q.length - s) (by omega) _).mono ?_;rintro e w4 ⟨rfl,hw⟩;rw[hw];clear hw;rw[show s+(q.length - s)=q.length by omega];clear aK;go_upto_region 3 with(fail)
 refine qE (n:=29) (w0:=U) (B:=U.heap.size) [.v 29 (.pointer (some ⟨G,0,none⟩)),.v 30 (.pointer (some ⟨G,0,none⟩)),.v 31 (.pointer (some ⟨G,0,none⟩)),.v 32 (.int .i64 2),.v 33 (.pointer (some ⟨G,0,none⟩)),.v 34 (.pointer (some ⟨G,0,none⟩)),.v 35 (.pointer (some ⟨G,0,none⟩)),.v 36 (.int .i64 2),.v 37 (.agg (qj .u64 (qL ST))),.v 38 (.pointer (some ⟨G,0,none⟩)),.v 39 (.pointer (some ⟨G,0,none⟩)),.v 40 (.pointer (some ⟨G,33,none⟩)),.v 41 (.slice ma q.length mc),.v 42 (.int .i64 (s:Nat)),.v 43 (.pointer (some ⟨G,0,none⟩)),.v 44 (.pointer (some ⟨G,0,none⟩)),.v 45 (.pointer (some ⟨G,0,none⟩)),.v 46 (.int .i64 2),.v 47 (.int .i64 64),.p 48 (fun u W=>W.ownsRow U.heap.size 5 1 u 64 ((QH 64 ((q.drop s).take 64)).map qt)),.v 49 (.int .u64 (q.length:Nat)),.v 50 (.int .u64 0),.v 51 (.pointer (some ⟨G,0,none⟩)),.v 52 (.pointer (some ⟨G,0,none⟩)),.v 53 (.pointer (some ⟨G,13,none⟩)),.v 54 (.bool la),.v 55 (.agg (qj .u64 (qL R))),.p 56 (fun u W=>W.ownsRow U.heap.size 5 1 u 32 ((qN 4 (qL R) 8).map qt)),.p 2 (fun u W=>W.ownsRow U.heap.size 5 1 u 32 ((qN 4 (qL R) 8).map qt))] (by exact⟨(fun _ _ _ h V=>qi h (fun g _ hg=>V.block g hg)),(fun _ _ _ h V=>qi h (fun g _ hg=>V.block g hg)),(fun _ _ _ h V=>qi h (fun g _ hg=>V.block g hg)),trivial⟩) Br.drew Nl ?_ ?_
 ·repeat' (with_reducible first|exact qz|refine qx ?_ ?_)
  all_goals try
   intro A x W r I O o D K J;have a0:=r.2 0 (by decide);conv at a0=>rhs;whnf
   have a6:=r.2 6 (by decide);conv at a6=>rhs;whnf
   have a4:=r.2 4 (by decide);conv at a4=>rhs;whnf
   have a5:=r.2 5 (by decide);conv at a5=>rhs;whnf
   simp only[QW,Q8]at D;clear o r;go_simp
   exact J _ _ BR rfl
  ·intro A x W r I O o _ K J;have aY:=gv r o 2 31;clear o r;have X:=qg MN.out I;have c0:W.cell? ⟨G,0,none⟩=some (.int .i64 2):=qd X 0;go_simp
   exact J _ _ BR rfl
  ·intro A x W r I O o _ K J;have aX:=gv r o 6 35;clear o r;have X:=qg MN.out I;have c0:W.cell? ⟨G,0,none⟩=some (.int .i64 2):=qd X 0;go_simp
   exact J _ _ BR rfl
  ·intro A x W r I O o _ K J;have a3:=r.2 3 (by decide);conv at a3=>rhs;whnf
   clear o r;have X:=qg M3.out I;refine wp_load_row 252 _ rfl b3 a3 _ _ _ _ X Tryz.underlying252 rfl (by rw[qf,Z.out.1];kernel_rfl) (J _ _ Br rfl)
  ·intro A x W r I O o _ K J;have a8:=gv r o 11 40;clear o r;have X:=qg MN.out I;have c0:W.cell? ⟨G,33,none⟩=some (.slice ma q.length mc):=qd X 33;go_simp
   exact J _ _ BR rfl
  ·intro A x W r I O o _ K J;have a7:=gv r o 16 45;clear o r;have X:=qg MN.out I;have c0:W.cell? ⟨G,0,none⟩=some (.int .i64 2):=qd X 0;go_simp
   exact J _ _ BR rfl
  ·intro A x W r I O o _ K J;have ba:=gv r o 17 46;clear o r;go_simp
   refine(Y0 false _).mono ?_;rintro e w' ⟨rfl,hw⟩;exact J _ _ (by rw[hw];exact Below.refl _ _) rfl
  ·intro A x W r I O o _ K J;have bk:=gv r o 12 41;have bg:=gv r o 13 42;have bh:=gv r o 18 47;clear o r;go_simp
   refine(jA q _ s 64 W (aD.out W (ai.out.trans (I.mono (by omega)))) (by decide) (by omega) au).mono ?_;rintro e w' ⟨u,rfl,ho,V⟩;exact J _ _ V (ownsRow_le ho O)
  ·intro A x W r I O o _ K J;have bd:=gv r o 24 53;clear o r;have X:=qg MN.out I;have c0:W.cell? ⟨G,13,none⟩=some (.bool la):=qd X 13;go_simp
   exact J _ _ BR rfl
  ·intro A x W r I O o _ K J;have aZ:=gv r o 7 36;have bb:=gv r o 8 37;have aQ:(fun u W=>W.ownsRow U.heap.size 5 1 u 64 ((QH 64 ((q.drop s).take 64)).map qt)) (x 48) W:=o ⟨19,.data⟩ (by simp) rfl _ rfl;have bf:A.tmps.getD 48 undef=x 48:=r.1 48 (by decide);have aT:=gv r o 20 49;have bl:=gv r o 21 50;have aW:=gv r o 25 54;clear o r;have aJ:=yl (n:=64) (zs:=(q.drop s).take 64) (fun z hz=>aF.out z (List.mem_of_mem_drop (List.mem_of_mem_take hz)));go_simp
   refine(qav ST (QH 64 ((q.drop s).take 64)) aj.out _ q.length (by omega) true la W (Q7 aQ) aJ (QM (List.length_take_le _ _))).mono ?_;rintro e w' ⟨rfl,V⟩;rw[aL.out];exact J _ _ V rfl
  ·intro A x W r I O o _ K J;have aV:=gv r o 3 32;have bj:=gv r o 26 55;clear o r;go_simp
   refine(qax false (qL R) (Qb (by decide) aE.out) _).mono ?_;rintro e w' ⟨u,rfl,ho,V⟩;exact J _ _ V (ownsRow_le ho O)
  ·intro A x W r I O o _ K J;have aO:(fun u W=>W.ownsRow U.heap.size 5 1 u 32 ((qN 4 (qL R) 8).map qt)) (x 56) W:=o ⟨27,.data⟩ (by simp) rfl _ rfl;have aN:A.tmps.getD 56 undef=x 56:=r.1 56 (by decide);clear o r;go_simp
   exact J _ _ Br (aN▸aO)
 intro x W I O aC;obtain⟨aw,ax,e2, -⟩:=aC;change (fun u W=>W.ownsRow U.heap.size 5 1 u 64 ((QH 64 ((q.drop s).take 64)).map qt)) (x 48) W at aw
 change (fun u W=>W.ownsRow U.heap.size 5 1 u 32 ((qN 4 (qL R) 8).map qt)) (x 56) W at ax
 change (fun u W=>W.ownsRow U.heap.size 5 1 u 32 ((qN 4 (qL R) 8).map qt)) (x 2) W at e2
 refine qw ?_;simp only[QF,Act.put,Ls];have E2:=hid (ownsRow_le e2 (show w.heap.size≤U.heap.size by omega));have aP:=hid (ai.out.trans (I.mono (by omega)));clear aw ax e2 I O;go_wp2
 go_ret
 exact⟨_,rfl,E2.out,by rw[ab];exact aP.out⟩
theorem qg7 (big:Bool)(zs:List Int):(YM big zs).length≤sB big:=by
 unfold YM Ya;simp only[List.length_take];omega
theorem qhq (big:Bool)(zs:List Int):(Y2 big zs).length≤sB big:=by
 unfold Y2 Ya;simp only[List.length_take];omega
theorem qcS {big:Bool}{zs:List Int}(o: ∀z∈zs,0≤z∧z≤255): ∀z∈YM big zs,0≤z∧z≤255:=fun z h=>o z (List.mem_of_mem_drop (List.mem_of_mem_take (List.mem_of_mem_take h)))
theorem qc9 {big:Bool}{zs:List Int}(o: ∀z∈zs,0≤z∧z≤255): ∀z∈Y2 big zs,0≤z∧z≤255:=fun z h=>o z (List.mem_of_mem_drop (List.mem_of_mem_take (List.mem_of_mem_take h)))
theorem qgo {big:Bool}{zs:List Int}(G: ∀z∈zs,0≤z∧z≤255)(h:okD big false zs):ParOk big (Yu big false zs):=by
 obtain⟨J,hm,hx,k1,k2,V,k9⟩:=h;have H:=fun f q o=>qV (big:=big) (ext:=false) G J (f:=f) q o
 have r: ∀f,1≤f→f≤9→((Yu big false zs f:Nat):Int)≤ye big false zs f:=fun f q o=>by
  have:=H f q o
  unfold Yu;split<;>omega
 have e:=fun f q o I=>JQ (big:=big) (ext:=false) G J (f:=f) q o I
 have X:=e 1 (by omega) (by omega) (by omega);have Y:=e 2 (by omega) (by omega) (by omega);have e4:=e 4 (by omega) (by omega) (by omega);have e9:=e 9 (by omega) (by omega) (by omega);have s1:Qi zs (atB big 1) (szE big false 1)=qr zs 0:=by cases big<;>simp[szE,szB,atB,zh]
 have s2:Qi zs (atB big 2) (szE big false 2)=qr zs 1:=by cases big<;>simp[szE,szB,atB,zh]
 have U:Qi zs (atB big 4) (szE big false 4)=qr zs 3:=by cases big<;>simp[szE,szB,atB,zh]
 have s9:Qi zs (atB big 9) (szE big false 9)=qr zs (atB big 9):=by cases big<;>simp[szE,szB,atB,zh]
 have B: ∀f n,1≤f→f≤9→szE big false f≤n→((Yu big false zs f:Nat):Int)<2^(8*n):=fun f n D O hs=>by
  have q:=(H f D O).2;have o:=r f D O;have I:(2:Int)^(8*szE big false f)≤2^(8*n):=by exact_mod_cast Nat.pow_le_pow_right (by decide:0<2) (Nat.mul_le_mul_left 8 hs)
  omega
 refine⟨⟨?_,?_,⟨by omega,?_⟩,⟨?_,?_⟩,⟨by omega,fun Z=>?_⟩,⟨by omega,?_⟩,?_⟩,?_,?_,rfl⟩
 ·rw[X,s1];exact k1
 ·rw[Y,s2];exact k2
 ·have:=B 3 1 (by omega) (by omega) (by cases big<;>decide);omega
 ·rw[e4,U];exact V rfl
 ·have:=B 4 1 (by omega) (by omega) (by cases big<;>decide);omega
 ·have:=B 6 6 (by omega) (by omega) (by subst Z;decide);omega
 ·have:=B 8 1 (by omega) (by omega) (by cases big<;>decide);omega
 ·rw[e9,s9];exact k9
 ·have:=B 5 4 (by omega) (by omega) (by cases big<;>decide);omega
 ·have:=B 6 8 (by omega) (by omega) (by cases big<;>decide);omega
theorem qe4 (big:Bool)(v:Nat→Nat)(z1 z2 o:List Int)(G r V D:Value)(la:Bool)(q:Int)(I:Nat)(w:World)(Z:Yd big w I v G r V la D q)(Y:ParOk big v)(h1:Hold w G z1)(X:Hold w r z2)(J:z1.length≤sB big)(O:z2.length≤sB big)(hM:Hold w D o)(U:(o.length:Int)≤281474976710656):
  Calls Tryz.prog 156 #[.pointer (some ⟨I,0,none⟩)] w fun e w'=> ∃u,e= .returned u∧w'.ownsRow w.heap.size 5 1 u (mB big) ((zA big (h0Z big (Q4 big v z1 z2)) o la).map qt)∧Below w.heap.size w w':=by
 cases big
 ·exact qc4 v z1 z2 o G r V D la q I w Z Y h1 X J O hM U
 ·exact qdQ v z1 z2 o G r V D la q I w Z Y h1 X J O hM U
def qia (big:Bool)(v:Nat→Nat)(z1 z2 kz:List Int)(la:Bool)(o:Int)(ds:List Int)(w:World)(e:Ending)(w':World):Prop:=
 (∃u,e= .returned (.tuple #[u,.int .i64 0])∧Fresh w.heap.size w' u ((zA big (h0Z big (Q4 big v z1 z2)) (yv (bB big) kz++ds) la).take o.toNat))∧Below w.heap.size w w'
theorem qfq {base g c m:Nat}{W:World}{zs:List Int}(h:W.ownsRow base 5 1 (.slice (some ⟨g,0,none⟩) zs.length c) zs.length (zs.map qt))(o:m≤zs.length):Fresh base W (.slice (some ⟨g,0,none⟩) m c) (zs.take m):=by
 obtain⟨q,r,O,D,G,J,I⟩:=zO h;have e:(zs.take m).length=m:=by simp[List.length_take,Nat.min_eq_left o]
 refine .inr ⟨g,c,q,by rw[e],G,r,by omega,by omega,by omega,?_⟩;rw[e,List.map_take,←D,List.take_take,Nat.min_eq_left o]
theorem qhX (big:Bool):mB big≤bB big∧bB big≤128:=by cases big<;>decide
theorem qe5 (big:Bool)(v:Nat→Nat)(z1 z2 D ds:List Int)(la:Bool)(o:Int)(sa pe kv dv:Value)(w:World)(hP:ParOk big v)(h1:Hold w sa z1)(h2:Hold w pe z2)(aF:z1.length≤sB big)(ap:z2.length≤sB big)(hK:Hold w kv D)(aH:D.length≤mB big)(hk:D.length=0∨D.length=v 2)(hD:Hold w dv ds)(aG:(ds.length:Int)≤140737488355200)(ab: ¬(o<1∨(mB big:Nat)<o)):
  Calls Tryz.prog 121 #[.int .i64 (kB big),parN v sa pe,kv,.bool la,.int .i64 o,dv] w fun e w'=>qia big v z1 z2 D la o ds w e w':=by
 obtain⟨J,I⟩:=Ex w.heap.size;obtain⟨a1,c1,rfl,aN,aP⟩:=h1.slice;obtain⟨a2,c2,rfl,aM,aK⟩:=h2.slice;have ag:Below J w (w.alloc (.cells #[.int .i64 (v 1:Nat),.int .i64 (v 2:Nat),.int .i64 (v 3:Nat),.int .i64 (v 4:Nat),.int .u32 (v 5:Nat),.int .u64 (v 6:Nat),.int .u32 (v 7:Nat),.int .i64 (v 8:Nat),.int .i64 (v 9:Nat),.slice a1 z1.length c1,.slice a2 z2.length c2] 171)):=by rw[←I];exact Br.alloc Nl _
 have Y:=Wn w (.cells #[.int .i64 (v 1:Nat),.int .i64 (v 2:Nat),.int .i64 (v 3:Nat),.int .i64 (v 4:Nat),.int .u32 (v 5:Nat),.int .u64 (v 6:Nat),.int .u32 (v 7:Nat),.int .i64 (v 8:Nat),.int .i64 (v 9:Nat),.slice a1 z1.length c1,.slice a2 z2.length c2] 171);rw[I]at Y;have aI:=(Ai Y).1;have al:=hid hP;have aR:=hid h1;have a3:=hid h2;have aB:=hid hK;have X:=hid hD;have aj:=hid aH;have aL:=hid hk;have ah:=hid aG;have af:=hid aF;have aa:=hid ap;clear hP h1 h2 aF ap hK aH hk hD aG aN aP aM aK;unfold parN parV;go_enter Tryz.func121,Tryz.ntmps121
 go_upto_region 1 with(fail)
 generalize w.alloc (.cells #[.int .i64 (v 1:Nat),.int .i64 (v 2:Nat),.int .i64 (v 3:Nat),.int .i64 (v 4:Nat),.int .u32 (v 5:Nat),.int .u64 (v 6:Nat),.int .u32 (v 7:Nat),.int .i64 (v 8:Nat),.int .i64 (v 9:Nat),.slice a1 z1.length c1,.slice a2 z2.length c2] 171)=wA at*;go_wp2_with ((with_reducible show wpList _ _ _ (Oper.mk _ (Op.load 171 _) _ _ _ _::_) _ _);refine wpList_load_row rfl 171 _ rfl J rfl _ _ _ _ Y Tryz.underlying171 rfl (by kernel_rfl) ?_)
 refine(qgg big v a1 a2 z1.length z2.length c1 c2 D kv wA al.out af.out aa.out (aB.out.below (I▸ag)) aj.out aL.out).mono ?_;rintro e w1 ⟨q,mv,rfl,a4,hN,hO,ai⟩;have aU:=ai.size;have au:Below J w w1:=ag.trans (ai.mono (by omega));have bb:q<w1.heap.size:=(Ai hN).1;have ay: ∀g,mv.ownBlock=some g→J<g:=fun g hg=>by have:=qbw hO hg;omega
 have an:=jD hO;have HN:=hid hN;have aD:=hid an;have ar:=hid au;have aC:=hid ay;have ba:J<q:=by omega
 clear hN hO ai au ay an Y ag aI aU a4 wA;have ad:=hid ab;have a6:decide (o<1)=false:=decide_eq_false (by omega);have aV:decide ((mB big:Int)<o)=false:=decide_eq_false (by omega);clear ab;have a7:w1.cell? ⟨q,13,none⟩=some (.bool false):=qd HN.out 13;have aX:=frozen_of_row w1 q 13 _ _ HN.out;go_wp2_with fail
 refine(qbr big _).mono ?_;rintro r w4 ⟨rfl,hw⟩;obtain rfl:=hw;go_upto_region 7 with(fail)
 have V:But q w4 (w4.setCell ⟨q,13,none⟩ (.bool la)):=(But.refl q w4).set 13 _;have aE:=hid (show Yd big (w4.setCell ⟨q,13,none⟩ (.bool la)) q v (.slice a1 z1.length c1) (.slice a2 z2.length c2) kv la mv 0 from qe7 HN.out);have ak:=hid (Yk aD.out V HN.out (by decide));have Z:=hid (show Below J w (w4.setCell ⟨q,13,none⟩ (.bool la)) from ar.out.trans (V.below (by omega) (by omega)));obtain⟨m,hm⟩: ∃m:Nat,o=(m:Int):=⟨o.toNat,by have:=ad.out;omega⟩;subst hm;have U:m≤mB big:=by have:=ad.out;omega
 have a9:=hid U;clear HN aD ar V a7 aX a6 aV U;generalize (w4.setCell ⟨q,13,none⟩ (.bool la))=W4 at*;go_wp2_with fail
 have aT:=Y6 (n:=bB big) (key:=D) (by have:=qhX big;have:=aj.out;omega);have ac:((yv (bB big) D++ds).length:Int)≤281474976710656:=by have:=qhX big;have:=ah.out;rw[List.length_append];omega
 have az: ∀z∈yv (bB big) D++ds,0≤z∧z≤255:=fun z hz=>by
  rcases List.mem_append.1 hz with hz|hz
  ·exact Y7 aB.out.1 z hz
  ·exact X.out.1 z hz
 have aJ:=hid ac;have aS:=hid az;refine(qcX big v (yv (bB big) D) ds (.slice a1 z1.length c1) (.slice a2 z2.length c2) kv mv dv la 0 q W4 aE.out ak.out (X.out.below (I▸Z.out)) (fun ao b hb=>⟨fun e=>by have:=YD X.out ao hb;omega,fun e=>by have:=YD X.out ao hb;have:=aC.out b e;omega⟩) (by have:=qhX big;have:=ah.out;omega)).mono ?_;rintro e w5 ⟨rfl,⟨aQ,aO,aA,aq⟩,ax⟩;clear aT ac az;have O:=hid (show Below J w w5 from Z.out.trans (ax.below (by have:=Z.out.size;omega) (fun k hk=>⟨by omega,fun e=>by have:=aC.out k e;omega⟩)));have aZ:=hid aA;have aW:=hid aq;clear aA aq ax aE ak Z;go_wp2_with fail
 refine(qe4 big v z1 z2 (yv (bB big) D++ds) (.slice a1 z1.length c1) (.slice a2 z2.length c2) kv aQ la aO q w5 aZ.out al.out (aR.out.below (I▸O.out)) (a3.out.below (I▸O.out)) af.out aa.out (Qq aW.out aS.out) aJ.out).mono ?_;rintro e w6 ⟨u,rfl,G,am⟩;have aY:=hid (show Below J w w6 from O.out.trans (am.mono (by have:=O.out.size;omega)));have aw:w.heap.size≤w5.heap.size:=O.out.size;obtain⟨u1,u2,u3,rfl⟩:=qs G;obtain rfl:u2=mB big:=yY G;obtain⟨gg,rfl⟩:=jd (jD G) (by cases big<;>decide);obtain⟨cu, -, -, -, -,be,a8⟩:=zO G;have ae:(zA big (h0Z big (Q4 big v z1 z2)) (yv (bB big) D++ds) la).length=mB big:=by have:=G.1;simpa using this
 have bc:(u3:Int)≤9223372036854775807:=by unfold maxLen at a8;omega
 have U:=a9.out;have bd:(m:Int)≤u3:=by omega
 have bf:(mB big:Int)≤(u3:Int):=by omega
 have av:=(qfq (m:=m) (zs:=zA big (h0Z big (Q4 big v z1 z2)) (yv (bB big) D++ds) la) (c:=u3) (by rw[ae];exact G) (by rw[ae];exact U)).le aw;have a5:=hid av;clear av G am ae aw U;go_wp2_with fail
 go_ret2
 exact⟨⟨_,rfl,a5.out⟩,by rw[I];exact aY.out⟩
theorem qel {big ext:Bool}{zs:List Int}(q: ∀z∈zs,0≤z∧z≤255)(o:zs.length=mB big):((Yu big ext zs 2:Nat):Int)=qr zs 1:=by
 rw[JQ (big:=big) (ext:=ext) q o (f:=2) (by omega) (by omega) (by omega)]
 cases big<;>cases ext<;>simp[szE,szB,atB,zh]
theorem qiA {big ext:Bool}{o q:List Int}(G: ∀z∈o,0≤z∧z≤255)(D:o.length=mB big)(r:YQ o q=false):q.length=0∨q.length=Yu big ext o 2:=by
 have J:=qel (ext:=ext) G D;unfold YQ at r;have I:=of_decide_eq_false r;omega
theorem qeq {big:Bool}{q D ds:List Int}{la:Bool}{o:Int}{w w0:World}{e:Ending}{w':World}(J: ∀z∈q,0≤z∧z≤255)(I:okD big false q)(r:Below w0.heap.size w0 w)(h:qia big (Yu big false q) (YM big q) (Y2 big q) D la o ds w e w'):
  ∃u,e= .returned (.tuple #[u,.int .i64 0])∧qbW big q D la o ds w0 (.returned (.tuple #[u,.int .i64 0])) w':=by
 obtain⟨⟨u,rfl,h⟩,G⟩:=h;rw[qhW J I]at h;exact⟨u,rfl,⟨u,rfl,h.le r.size⟩,r.trans (G.mono r.size)⟩
theorem qbt (big:Bool)(D r ds:List Int)(la:Bool)(o:Int)(J kv O:Value)(w:World)(hB:Hold w J D)(hK:Hold w kv r)(hD:Hold w O ds)(aD:(ds.length:Int)≤140737488355200)(ax:okD big false D)(ah:YQ D r=false)(ho: ¬(o<1∨(mB big:Nat)<o)):
  Calls Tryz.prog 85 #[.agg (yW (kB big) J kv la o O)] w fun e w'=>qbW big D r la o ds w e w':=by
 obtain⟨G,U⟩:=Ex w.heap.size;obtain⟨X,V,rfl,aF,aE⟩:=hK.slice;have aa:Below G w (w.alloc (.cells #[.int .i64 (kB big),J,.slice X r.length V,.bool la,.int .i64 o,O] 73)):=by rw[←U];exact Br.alloc Nl _
 have I:=Wn w (.cells #[.int .i64 (kB big),J,.slice X r.length V,.bool la,.int .i64 o,O] 73);rw[U]at I;have ac:=(Ai I).1;have hq:((kB big != 1)&&(kB big != 2))=false:=by cases big<;>rfl
 obtain⟨q0,aB⟩: ∃q,(kB big != 1)=q:=⟨_,rfl⟩;obtain⟨q1,ar⟩: ∃q,(kB big != 2)=q:=⟨_,rfl⟩;rw[aB,ar]at hq;obtain⟨kk,ag⟩:=Ex (kB big);have az:=hid ag;have ad:=hid hB;have aN:=hid hK;have aH:=hid hD;have aG:=hid aD;have HO:=hid ax;have ai:=hid ah;have aJ:=hid ho;clear hB hK hD aD aF aE ax ah ho;show Calls _ _ #[.agg #[.int .i64 (kB big),J,.slice X r.length V,.bool la,.int .i64 o,O]] _ _
 rw[ag]at aa I ac aB ar⊢;clear ag;go_enter Tryz.func85,Tryz.ntmps85
 go_upto_region 1 with(fail)
 generalize w.alloc (.cells #[.int .i64 kk,J,.slice X r.length V,.bool la,.int .i64 o,O] 73)=wA at*;have c0:wA.cell? ⟨G,0,none⟩=some (.int .i64 kk):=qd I 0;have c1:wA.cell? ⟨G,1,none⟩=some J:=qd I 1
 cases q0<;>cases q1<;>first|(exfalso;cases hq;done)|skip
 all_goals
  clear hq;go_wp2_with fail
  refine(show Calls Tryz.prog 120 #[.int .i64 kk,J] wA _ from az.out▸qb7 big D J wA (ad.out.below (U▸aa)) HO.out).mono ?_;rintro e w1 ⟨⟨cs,rfl,ap⟩,ab⟩;have aI:=ab.size;have aA:=qg I ab;have aq:Below G w w1:=aa.trans (ab.mono (by omega));have Z:=hid ap;have an:=hid aq;have av:=hid aA;clear ap aq aA ab aa c0 c1 I;go_upto_region 7 with((with_reducible show wpList _ _ _ (Oper.mk none (Op.store 171 (Operand.tmp 5) _) _ _ _ _::_) _ _);refine wpList_store_row rfl 171 _ _ rfl w1.heap.size cs rfl rfl 171 _ (Wn _ _) (by rw[Z.out.1];kernel_rfl) (by rw[Z.out.1];rfl) Z.out.2.1 ?_)
  refine qn ?_;intro W hW;obtain⟨p5,ae⟩:=Ex w1.heap.size;have r5:W.heap[p5]? =some (.cells cs 171 (0,0)):=by rw[hW,←ae];exact setRow_heap _ _ _ _ _ _ (Wn _ _)
  have r0:W.heap[G]? =some (.cells #[.int .i64 kk,J,.slice X r.length V,.bool la,.int .i64 o,O] 73 (0,0)):=by rw[hW];exact(setRow_other (w1.alloc _) _ _ _ (by omega)).trans ((Bh _ _ _ (by omega)).trans av.out)
  have aC:Below G w W:=by rw[hW];exact below_setRow (an.out.alloc (by omega) _) (by omega) _
  have ak:DecIs big D G W cs:=Z.out.mono (by omega) (fun g hg aO=>by rw[hW];exact(setRow_other (w1.alloc _) _ _ _ (by omega)).trans (Bh _ _ _ aO));rw[ae];have aR:G<p5:=by omega
  have aS:p5<W.heap.size:=(Ai r5).1;clear hW ae av an Z aI ac;have R5:=hid r5;have R0:=hid r0;have af:=hid aC;have ay:=hid ak;clear r5 r0 aC ak;obtain⟨-, -,sa,pe,Y,al,ao⟩:=ay.out;clear ay;obtain⟨v,hv⟩:=Ex (Yu big false D);rw[hv]at Y;unfold parN parV at Y;injection Y with Y
  subst Y;have hz:=ad.out.1;have aK:=hid (Qq al (qcS hz));have aL:=hid (Qq ao (qc9 hz));have HV:=hid hv;clear al ao hv;have c5:W.cell? ⟨p5,1,none⟩=some (.int .i64 (v 2:Nat)):=qd R5.out 1;have c2:W.cell? ⟨G,2,none⟩=some (.slice X r.length V):=qd R0.out 2;have aQ:G<W.heap.size:=(Ai R0.out).1;have aw:((v 2:Nat):Int)=qr D 1:=by rw[←HV.out];exact qel hz HO.out.1
  obtain⟨q2,aM⟩: ∃q,((r.length:Int) != 0)=q:=⟨_,rfl⟩;obtain⟨q3,aP⟩: ∃q,((r.length:Int) != (v 2:Nat))=q:=⟨_,rfl⟩;have aj:YQ D r=(q2&&q3):=by rw[←aM,←aP,aw];exact qac D r
  have au:=hid aj;clear hz aw aj;have am:(q2&&q3)=false:=by rw[←au.out];exact ai.out
  clear au;have c3:W.cell? ⟨G,3,none⟩=some (.bool la):=qd R0.out 3;have c4:W.cell? ⟨G,4,none⟩=some (.int .i64 o):=qd R0.out 4;have c6:W.cell? ⟨G,5,none⟩=some O:=qd R0.out 5
  cases q2<;>cases q3<;>first|(exfalso;cases am;done)|skip
  all_goals
   clear am;go_wp2_with ((with_reducible show wpList _ _ _ (Oper.mk _ (Op.load 171 _) _ _ _ _::_) _ _);refine wpList_load_row rfl 171 _ rfl p5 rfl _ _ _ _ R5.out Tryz.underlying171 rfl (by kernel_rfl) ?_)
   have HZ:=ad.out.1;refine(show Calls Tryz.prog 121 #[.int .i64 kk,parN v sa pe,.slice X r.length V,.bool la,.int .i64 o,O] W _ from az.out▸qe5 big v (YM big D) (Y2 big D) r ds la o sa pe (.slice X r.length V) O W (HV.out▸qgo HZ HO.out) aK.out aL.out (qg7 big D) (qhq big D) (aN.out.below (U▸af.out)) (qdk HO.out ai.out) (HV.out▸qiA HZ HO.out.1 ai.out) (aH.out.below (U▸af.out)) aG.out aJ.out).mono ?_;intro e w9 hh;obtain⟨u,rfl,hc⟩:=qeq (w0:=w) HZ HO.out (U▸af.out) (HV.out▸hh);have HC:=hid hc;clear hh hc HZ;go_wp2_with fail
   go_ret2
   exact HC.out
end Go.Proofs.YthjoojnlnlmljaaGreat
