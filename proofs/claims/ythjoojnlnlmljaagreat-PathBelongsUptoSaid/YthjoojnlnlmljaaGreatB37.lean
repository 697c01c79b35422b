/- Bytes are written, by the reference. No condition. -/
import Derived.Test.YthjoojnlnlmljaaGreatB34
import Derived.Test.YthjoojnlnlmljaaGreatB24
import Derived.Test.YthjoojnlnlmljaaGreatB33
set_option linter.all false
set_option maxRecDepth 100000
set_option maxHeartbeats 8000000
namespace Go.Proofs.YthjoojnlnlmljaaGreat
open Go.ChangeShapes Go.WideShapes Go.ChangeAt Go.RowKit Go.Joins Go.Shelf Go.Maps
open Go.Lib (hid)
attribute [local go_sem] Oper.semAt_some
theorem qcT {big:Bool}{W:World}{o:Nat}{v:Nat→Nat}{G D r I x:Value}{la:Bool}{q:Int}(h:Yv big W o v G D r la I q):Yv big (W.setCell ⟨o,33,none⟩ x) o v G D r la x q:=heap_setCell_same W o 33 _ _ x h
theorem qhj {big:Bool}{W:World}{o:Nat}{v:Nat→Nat}{D r q I:Value}{la:Bool}{G x:Int}(h:Yv big W o v D r q la I G):Yv big (W.setCell ⟨o,34,none⟩ (.int .u64 x)) o v D r q la I x:=heap_setCell_same W o 34 _ _ _ h
theorem qfT {big:Bool}{W:World}{o:Nat}{v:Nat→Nat}{G D r I:Value}{la b:Bool}{q:Int}(h:Yv big W o v G D r la I q):Yv big (W.setCell ⟨o,13,none⟩ (.bool b)) o v G D r b I q:=heap_setCell_same W o 13 _ _ _ h
theorem qj3 {W:World}{n b:Nat}{v:Value}{xs:List Value}(h:W.ownsRow 0 5 1 v n xs)(o:v.ownBlock=some b):b<W.heap.size:=by
 rcases h.2 with⟨rfl, -⟩|⟨g,D,r,rfl,G,q, -⟩
 ·cases o
 ·simp only[Value.ownBlock,Option.some.injEq]at o;subst o;exact(Ai q).1
theorem qdz (big:Bool)(v:Nat→Nat)(o G:List Int)(sa pe kv mv bv:Value)(la:Bool)(O:Int)(r:Nat)(w:World)(hN:Yv big w r v sa pe kv la mv O)(hO:w.ownsRow 0 5 1 mv o.length (o.map qo))(hH:Hold w bv G)(hF:G≠[]→ ∀b,bv.ownBlock=some b→zZ r mv b)(a8:(o.length:Int)+G.length≤140737488355328):
  Calls Tryz.prog 155 #[.pointer (some ⟨r,0,none⟩),bv] w fun e w'=>e= .returned (.tuple #[])∧(∃Z aG,Yv big w' r v sa pe kv la Z aG∧w'.ownsRow 0 5 1 Z (o++G).length ((o++G).map qo))∧Spare (zZ r mv) w w':=by
 obtain⟨i0,hi,aH,aN,aM⟩:=info_parts Ql;have be:r<w.heap.size:=(Ai hN).1;obtain⟨ba,bc,rfl,aD,a7⟩:=hH.slice;obtain⟨S,hS⟩:=Ex (zZ r mv);rw[hS];have a5:=hid hN;have a6:=hid hO;have aq:=hid hH;have aA:=hid hF;have ad:=hid hS;clear hN hO hH hF hS aD;have bj:(G.length:Int)≤140737488355328:=by omega
 go_enter Tryz.func155,Tryz.ntmps155
 go_wp2_with fail
 go_loopw [4] (fun i wr=> ∃j:Nat,i= .int .i64 j∧j≤G.length∧(∃Z,Yv big wr r v sa pe kv la Z O∧wr.ownsRow 0 5 1 Z (o.length+j) ((o++G.take j).map qo)∧(Z.ownBlock=mv.ownBlock∨ ∀g,Z.ownBlock=some g→w.heap.size≤g))∧Spare S w wr) (fun i _=>G.length - (intOf i).toNat)
 case atStart=>exact⟨0,rfl,Nat.zero_le _,⟨mv,a5.out,by simpa using a6.out,.inl rfl⟩,Spare.refl _ _⟩
 case round=>
  obtain⟨j,rfl,hj,⟨bm,hn,ho,hw⟩,al⟩:=hrel;obtain⟨a1,n1,c1,rfl⟩:=qs ho;have aO:n1=o.length+j:=yM ho;subst aO;have bd:r<wr.heap.size:=(Ai hn).1;have ak:=hid hn;have aw:=hid ho;have ar:=hid hw;have ag:=hid al;by_cases an:j<G.length
  case neg=>
   obtain rfl:j=G.length:=by omega
   have bl:wr.cell? ⟨r,34,none⟩=some (.int .u64 O):=qd hn 34;have bk:=frozen_of_row wr r 34 _ _ hn;clear hn ho hw al;go_wp2
   go_end0
   have ax:=(But.refl r wr).set 34 (.int .u64 (IntKind.u64.wrap (O+(G.length:Int))));refine⟨rfl,⟨_,_,qhj ak.out,?_⟩,ag.out.trans (Spare.of_but ((But.refl r wr).set 34 _)) (fun b _ U=>by have Y:=ad.out;subst Y;exact U.1)⟩;have h1:=aw.out;rw[List.take_length]at h1;rw[List.length_append];exact Yy h1 ((But.refl r wr).set 34 _) ak.out (by decide)
  have aj:G≠[]:=fun e=>by rw[e]at an;simp at an
  have au:Hold wr (.slice ba G.length bc) G:=zV aq.out aq.out rfl (Spare.refl S w) al (fun b U=>by have h4:=ad.out;subst h4;exact aA.out aj b U) aj;obtain⟨bb,af,rfl,q1,q2,q3,q4⟩:=qay au Br an;have bh:(j:Int)<G.length:=by omega
  have ax:o++G.take (j+1)=(o++G.take j)++[qp G j]:=by rw[jF an,List.append_assoc]
  have aT:=hid ax;have bf:=hid au;obtain⟨z,hz⟩:=Ex (qp G j);rw[hz]at q2 q3 q4;have HZ:=hid hz;have Q2:=hid q2;have bo:(o.length:Int)+j<140737488355328:=by omega
  clear hn ho hw al ax au hz q2;go_upto_region 3 with(fail)
  have am: ∀(W:World) (f:Bool),((f=false→Below wr.heap.size wr W)∧(f=true→W.heap[r]? =some (.cells (rN (kB big) v sa pe kv la (.slice a1 (o.length+j) c1) O) 254 (0,0))∧Spare (fun b=>(Value.slice a1 (o.length+j) c1).ownBlock≠some b) wr W))→W.cell? ⟨bb,af+j,none⟩=some (.int .u8 z):=fun W f J=>by
   cases f
   ·exact((J.1 rfl).cell (p:=⟨bb,af+j,none⟩) q1).trans Q2.out
   ·refine(World.cell?_of_block ((J.2 rfl).2.block bb q1 ?_)).trans Q2.out;have h4:=ad.out;subst h4;have h5:=(aA.out aj bb rfl).2;rcases ar.out with h6|h6
    ·rw[h6];exact h5
    ·intro e;have:=h6 bb e;have h7:bb<w.heap.size:=YT aq.out aj rfl;omega
  have ai: ∀(W:World) (f:Bool),((f=false→Below wr.heap.size wr W)∧(f=true→W.heap[r]? =some (.cells (rN (kB big) v sa pe kv la (.slice a1 (o.length+j) c1) O) 254 (0,0))∧Spare (fun b=>(Value.slice a1 (o.length+j) c1).ownBlock≠some b) wr W))→bb<W.heap.size:=fun W f J=>by
   cases f
   ·exact Nat.lt_of_lt_of_le q1 (J.1 rfl).size
   ·exact Nat.lt_of_lt_of_le q1 (J.2 rfl).2.size
  have ae: ∀(W:World) (f:Bool),((f=false→Below wr.heap.size wr W)∧(f=true→W.heap[r]? =some (.cells (rN (kB big) v sa pe kv la (.slice a1 (o.length+j) c1) O) 254 (0,0))∧Spare (fun b=>(Value.slice a1 (o.length+j) c1).ownBlock≠some b) wr W))→wr.heap.size≤W.heap.size:=fun W f J=>by
   cases f
   ·exact(J.1 rfl).size
   ·exact(J.2 rfl).2.size
  refine Yt (n:=11) (fun f W=>(f=false→Below wr.heap.size wr W)∧(f=true→W.heap[r]? =some (.cells (rN (kB big) v sa pe kv la (.slice a1 (o.length+j) c1) O) 254 (0,0))∧Spare (fun b=>(Value.slice a1 (o.length+j) c1).ownBlock≠some b) wr W)) 10 [.z 11 r 0,.z 12 r 0,.z 13 r 0,.z 14 r 33,.v 15 (.slice a1 (o.length+j) c1),.v 16 (.slice (some ⟨bb,af,none⟩) G.length bc),.v 17 (.int .i64 j),.z 18 bb (af+j),.v 19 (.int .u8 z),.p 20 (fun u W=> ∃q,u= .slice (some ⟨q,0,none⟩) 1 1∧wr.heap.size≤q∧W.heap[q]? =some (.cells #[.int .u8 z] 5 (0,0))),.p 21 (fun u W=>W.ownsRow 0 5 1 u (o.length+(j+1)) ((o++G.take (j+1)).map qo)∧(u.ownBlock=(Value.slice a1 (o.length+j) c1).ownBlock∨ ∀g,u.ownBlock=some g→wr.heap.size≤g))] (by exact⟨(fun _ _ U _ h=>by obtain⟨q,e,h1,Y⟩:=h;exact⟨q,e,h1,qf Y U⟩),(fun _ _ U u h=>⟨qi h.1 (fun g _ hg=>U.block g hg),h.2⟩),trivial⟩) ⟨fun _=>Br.drew,fun h=>(by cases h)⟩ (fun f W W' h U=>⟨fun e=>(h.1 e).trans (U.mono (h.1 e).size),fun e=>⟨qf (h.2 e).1 U,(h.2 e).2.trans (Spare.of_below _ U) (fun _ _ h=>h)⟩⟩) ?_ ?_ ?_
  ·repeat' (with_reducible first|exact qB|refine qw ?_ ?_)
   all_goals try
    refine .inr ?_;intro A x W f V J hf I D K hK;have a0:=V.2 0 (by decide);conv at a0=>rhs;whnf
    have a1:=V.2 1 (by decide);conv at a1=>rhs;whnf
    have a4:=V.2 4 (by decide);conv at a4=>rhs;whnf
    simp only[Q7,yk]at D;clear I V;first
    | go_simp
      exact hK _ _ BR rfl
    | have y0:W.cell? ⟨bb,af+j,none⟩=some (.int .u8 z):=am W f J
      have y1:bb<W.heap.size:=ai W f J;go_simp
      exact hK _ _ BR rfl
   any_goals exact .inl rfl
   all_goals refine .inr ?_
   ·intro A x W f V J hf I _ K hK;have bg:=gw V I 3 14;clear I V;have aL:f=false:=hf (by kernel_rfl);have g0:=qf ak.out (J.1 aL);have c0:W.cell? ⟨r,33,none⟩=some (.slice a1 (o.length+j) c1):=qd g0 33;go_simp
    exact hK _ _ BR rfl
   ·intro A x W f V J hf I _ K hK;have aJ:=gw V I 8 19;clear I V;have a9:A.tmps[19]?.getD undef= .int .u8 z:=by rw[←Lh];exact aJ
    go_simp
    exact hK _ _ (Br.alloc Nl _) ⟨W.heap.size,rfl,ae W f J,Wn W _⟩
  ·intro A x W V J I K hK;have aV:=gw V I 4 15;have aI:(fun u W=> ∃q,u= .slice (some ⟨q,0,none⟩) 1 1∧wr.heap.size≤q∧W.heap[q]? =some (.cells #[.int .u8 z] 5 (0,0))) (x 20) W:=I ⟨9,.data⟩ (by simp) rfl;have aR:A.tmps.getD 20 undef=x 20:=V.1 20 (by decide);clear I V;have hB:=J.1 rfl;have ho:=qi aw.out (fun g _ hg=>hB.block g hg);have g0:=qf ak.out hB;obtain⟨qb,eq,bn,aP⟩:=aI;refine YM _ _ 24 rfl 0 5 i0 (.int .u8 0) 1 Tryz.underlying24 hi aH aN aM rfl (.slice a1 (o.length+j) c1) (o.length+j) ((o++G.take j).map qo) aV ho (.slice (some ⟨qb,0,none⟩) 1 1) 1 [.int .u8 z] (aR.trans eq) ⟨rfl,by simp[Value.oneCell'],.inr ⟨⟨qb,0,none⟩,1,rfl,jH aP⟩⟩ (by unfold maxLen;omega) (by omega) (Nat.zero_le _) ?_;intro v' w' h1 Y X;have h4:w'.heap[r]? =some (.cells (rN (kB big) v sa pe kv la (.slice a1 (o.length+j) c1) O) 254 (0,0)):=(Y.block r (Ai g0).1 (qdM ho g0 (by decide))).trans g0;have h5:w'.ownsRow 0 5 1 v' (o.length+(j+1)) ((o++G.take (j+1)).map qo):=by rw[aT.out,HZ.out,List.map_append,←Nat.add_assoc];exact h1
   have h6: ∀b,(Value.slice a1 (o.length+j) c1).ownBlock=some b→b<wr.heap.size:=fun b U=>qj3 aw.out U
   refine hK v' w' (fun h=>by cases h) ⟨fun h=>(by cases h),fun _=>⟨h4,(Spare.of_below _ hB).trans (Spare.of_grown Y) (fun _ _ h=>h)⟩⟩ ⟨.inr (fun _ h=>h),.inr (fun _ h=>h),.inr (fun _ h=>h),.inr (fun _ h=>h),.inr (fun _ h=>h),.inr (fun _ h=>h),.inr (fun _ h=>h),.inr (fun _ h=>h),.inr (fun _ h=>h),.inr (fun u h=>by obtain⟨q,e,k1,k2⟩:=h;exact⟨q,e,k1,(Y.block q (Ai k2).1 (fun e2=>by have:=h6 q e2.symm;omega)).trans k2⟩),.inl rfl,trivial⟩ ⟨h5,?_⟩;rcases X with X|X
   ·exact .inl X
   ·refine .inr fun g hg=>?_
    rw[X]at hg;cases hg;exact hB.size
  intro x W J aB;obtain⟨ay,aa, -⟩:=aB;change (fun u W=> ∃q,u= .slice (some ⟨q,0,none⟩) 1 1∧wr.heap.size≤q∧W.heap[q]? =some (.cells #[.int .u8 z] 5 (0,0))) (x 20) W at ay
  change ((fun u W=>W.ownsRow 0 5 1 u (o.length+(j+1)) ((o++G.take (j+1)).map qo)∧(u.ownBlock=(Value.slice a1 (o.length+j) c1).ownBlock∨ ∀g,u.ownBlock=some g→wr.heap.size≤g))) (x 21) W at aa
  obtain⟨ac,ap⟩:=J.2 rfl;obtain⟨ab,ah⟩:=aa;obtain⟨a3,n3,c3,aa⟩:=qs ab;rw[aa]at ab ah;obtain rfl:n3=o.length+(j+1):=yM ab;refine qr ?_;simp only[QP,Act.put,Ls,aa];clear aa ay;have aY:W.cell? ⟨r,33,none⟩=some (.slice a1 (o.length+j) c1):=qd ac 33;have aS:=frozen_of_row W r 33 _ _ ac;have aW:r<W.heap.size:=(Ai ac).1;have az:=hid ac;have aK:=hid ab;have aE:=hid ah;have aF:=hid ap;clear ac ab ah ap J am ai ae;go_wp2_with fail
  refine qr ?_;go_wp2_with fail
  refine qr ?_;go_wp2_with fail
  refine qv ?_;have av:But r W (W.setCell ⟨r,33,none⟩ (.slice a3 (o.length+(j+1)) c3)):=(But.refl r W).set 33 _;have aU:=hid (show Yv big (W.setCell ⟨r,33,none⟩ (.slice a3 (o.length+(j+1)) c3)) r v sa pe kv la (.slice a3 (o.length+(j+1)) c3) O from qcT az.out);have aQ:=hid (Yy aK.out av az.out (by decide));have aX:=hid (show(Value.slice a3 (o.length+(j+1)) c3).ownBlock=mv.ownBlock∨ ∀g,(Value.slice a3 (o.length+(j+1)) c3).ownBlock=some g→w.heap.size≤g from by
   rcases aE.out with X|X
   ·rw[X];exact ar.out
   ·exact .inr fun g hg=>Nat.le_trans ag.out.size (X g hg))
  have ao:Spare S w (W.setCell ⟨r,33,none⟩ (.slice a3 (o.length+(j+1)) c3)):=by
   refine(ag.out.trans aF.out ?_).trans (Spare.of_but av) (fun b _ U=>by have Y:=ad.out;subst Y;exact U.1);intro b bi aZ;have Y:=ad.out;subst Y;rcases ar.out with X|X
   ·rw[X];exact aZ.2
   ·intro e;have:=X b e;omega
  have aC:=hid ao;clear av ao aY aS aW;generalize W.setCell ⟨r,33,none⟩ (.slice a3 (o.length+(j+1)) c3)=W8 at*;go_wp2
  exact⟨⟨j+1,rfl,by omega,⟨_,aU.out,aQ.out,aX.out⟩,aC.out⟩,by simp[intOf];omega⟩
theorem qhh (big:Bool)(v:Nat→Nat)(a1 a2:Option Addr)(D r c1 c2:Nat)(kz:List Int)(kv:Value)(w:World)(hP:ParOk big v)(ag:D≤sB big)(al:r≤sB big)(hK:Hold w kv kz)(af:kz.length≤mB big)(hk:kz.length=0∨kz.length=v 2):
  Calls Tryz.prog 153 #[.int .i64 (kB big),parN v (.slice a1 D c1) (.slice a2 r c2),kv] w fun e w'=> ∃o mv,e= .returned (.tuple #[.pointer (some ⟨o,0,none⟩),.int .i64 0])∧w.heap.size≤o∧Yv big w' o v (.slice a1 D c1) (.slice a2 r c2) kv false mv 0∧w'.ownsRow w.heap.size 5 1 mv (yz (bB big) kz).length ((yz (bB big) kz).map qo)∧Below w.heap.size w w':=by
 obtain⟨G,S⟩:=Ex w.heap.size;obtain⟨Y,kc,rfl,ar,ao⟩:=hK.slice;have ab:=hid (ZN hP a1 a2 c1 c2 ag al);have ai:Below G w (w.alloc (.cells #[.int .i64 (v 1),.int .i64 (v 2),.int .i64 (v 3),.int .i64 (v 4),.int .u32 (v 5),.int .u64 (v 6),.int .u32 (v 7),.int .i64 (v 8),.int .i64 (v 9),.slice a1 D c1,.slice a2 r c2] 171)):=by rw[←S];exact Br.alloc Nl _
 have O:=Wn w (.cells #[.int .i64 (v 1),.int .i64 (v 2),.int .i64 (v 3),.int .i64 (v 4),.int .u32 (v 5),.int .u64 (v 6),.int .u32 (v 7),.int .i64 (v 8),.int .i64 (v 9),.slice a1 D c1,.slice a2 r c2] 171);rw[S]at O;have hq:(((kz.length:Int) != 0)&&((kz.length:Int) != (v 2:Nat)))=false:=by rcases hk with h|h<;>simp[h]
 obtain⟨q0,aF⟩: ∃q,((kz.length:Int) != 0)=q:=⟨_,rfl⟩;obtain⟨q1,aG⟩: ∃q,((kz.length:Int) != (v 2:Nat))=q:=⟨_,rfl⟩;rw[aF,aG]at hq;have az:=hid hK;have an:=hid af;clear hP ag al hK af hk ar ao;unfold parN parV;unfold parN parV at ab;go_enter Tryz.func153,Tryz.ntmps153
 go_upto_region 1 with(fail)
 generalize w.alloc (.cells #[.int .i64 (v 1),.int .i64 (v 2),.int .i64 (v 3),.int .i64 (v 4),.int .u32 (v 5),.int .u64 (v 6),.int .u32 (v 7),.int .i64 (v 8),.int .i64 (v 9),.slice a1 D c1,.slice a2 r c2] 171)=wA at*;go_wp2_with ((with_reducible show wpList _ _ _ (Oper.mk _ (Op.load 171 _) _ _ _ _::_) _ _);refine wpList_load_row rfl 171 _ rfl G rfl _ _ _ _ O Tryz.underlying171 rfl (by kernel_rfl) ?_)
 refine(ab.out wA).mono ?_;rintro e w1 ⟨rfl,V⟩;have U:=qf O V;have ay:=V.size;have ap:G<wA.heap.size:=(Ai O).1;have aq:G<w1.heap.size:=by omega
 have ak:Below G w w1:=ai.trans (V.mono (by omega));have aA:w1.cell? ⟨G,1,none⟩=some (.int .i64 (v 2)):=qd U 1;have ah:=hid ak;have aE:=hid U;clear V ai O ak ay ap ab
 cases q0<;>cases q1<;>first|(exfalso;cases hq;done)|skip
 all_goals
  clear hq;go_upto_region 7 with((with_reducible show wpList _ _ _ (Oper.mk _ (Op.load 171 _) _ _ _ _::_) _ _);refine wpList_load_row rfl 171 _ rfl G rfl _ _ _ _ U Tryz.underlying171 rfl (by kernel_rfl) ?_)
  change Code.wp _ _ _ _ (w1.alloc (.cells (rN (kB big) v (.slice a1 D c1) (.slice a2 r c2) (.slice Y kz.length kc) false (.slice none 0 0) 0) 254))
  have X:Yv big (w1.alloc (.cells (rN (kB big) v (.slice a1 D c1) (.slice a2 r c2) (.slice Y kz.length kc) false (.slice none 0 0) 0) 254)) w1.heap.size v (.slice a1 D c1) (.slice a2 r c2) (.slice Y kz.length kc) false (.slice none 0 0) 0:=Wn _ _;have ac:Below G w (w1.alloc (.cells (rN (kB big) v (.slice a1 D c1) (.slice a2 r c2) (.slice Y kz.length kc) false (.slice none 0 0) 0) 254)):=ah.out.alloc (by omega) _;obtain⟨o,ax⟩:=Ex w1.heap.size;rw[ax]at X aq⊢;generalize (w1.alloc (.cells (rN (kB big) v (.slice a1 D c1) (.slice a2 r c2) (.slice Y kz.length kc) false (.slice none 0 0) 0) 254))=W2 at*;have aD:=hid X;have aw:=hid ac;have am:=(az.out.below (S▸ac));have aC:=hid am;have aH:o<W2.heap.size:=(Ai X).1;clear X ac am aA aE U ah;go_wp2_with fail
  refine(qex big kz _ W2 aC.out an.out).mono ?_;rintro e I ⟨mv,rfl,ho,aa⟩;obtain⟨ma,mn,Z,rfl⟩:=qs ho;have J:=qf aD.out aa;have aK:I.cell? ⟨o,33,none⟩=some (.slice none 0 0):=qd J 33;have aI:=frozen_of_row I o 33 _ _ J;have aJ:o<I.heap.size:=(Ai J).1;have ad:Below G w I:=aw.out.trans (aa.mono (by omega));have aj:But o I (I.setCell ⟨o,33,none⟩ (.slice ma mn Z)):=(But.refl o I).set 33 _;have ae:(I.setCell ⟨o,33,none⟩ (.slice ma mn Z)).ownsRow w.heap.size 5 1 (.slice ma mn Z) (yz (bB big) kz).length ((yz (bB big) kz).map qo):=by
   rcases ho.2 with⟨h2,h3⟩|⟨g,aB,au,h2,h3,h4,h5⟩
   ·exact⟨ho.1,.inl ⟨h2,h3⟩⟩
   ·refine⟨ho.1,.inr ⟨g,aB,au,h2,by omega,?_,h5⟩⟩;rw[aj.block g (Ai h4).1 (by omega)];exact h4
  have HF:=hid (show Yv big (I.setCell ⟨o,33,none⟩ (.slice ma mn Z)) o v (.slice a1 D c1) (.slice a2 r c2) (.slice Y kz.length kc) false (.slice ma mn Z) 0 from qcT J);have HO:=hid ae;have av:=hid (show Below G w (I.setCell ⟨o,33,none⟩ (.slice ma mn Z)) from ad.setCell (by show G≤o;omega) _);clear ho aa J ad aj ae;go_wp2
  go_ret2
  exact⟨o,_,rfl,by omega,HF.out,HO.out,by rw[S];exact av.out⟩
theorem Zw {P:Program}{fn:Func}{p G r q:Tmp}{o:TypeId}(h:fn.results= #[.cell p o,.tmp G,.tmp r,.tmp q])(tmps:Array Value)(w:World)(g:Nat)(t:TypeId)(cs:Array Value)(fr:Nat×Nat)(d:TypeDesc)
  (S:tmps.getD p undef= .pointer (some ⟨g,0,none⟩)) (I:w.heap[g]? =some (.cells cs t fr))
  (J:P.underlying o=some d) (O:(match d with| .struct _| .array _ _=>true|_=>false)=true) (hi:(P.info? o).map (·.size)=some cs.size):
  (results fn tmps).run P w= .ok (.tuple #[.agg cs,tmps.getD G undef,tmps.getD r undef,tmps.getD q undef]) w:=by
 have D:tmps[p]?.getD undef= .pointer (some ⟨g,0,none⟩):=by simpa using S
 simp[results,h,D,asAddr,run_loadVar_row w g t o cs fr d I J O hi]
theorem qiy {n L k:Nat}(D:0<n)(r:k≤nbk n L):(n*k+n<L↔k<nbk n L):=by
 have q:=Yw D L;have e:n*(k+1)=n*k+n:=Nat.mul_succ _ _;constructor
 ·intro h;refine Nat.lt_of_le_of_ne r fun G=>?_
  rw[G]at h;omega
 ·intro h;have I:n*(k+1)≤n*nbk n L:=Nat.mul_le_mul_left _ h;by_cases o:0<L
  ·have:=q.2.2 o;omega
  ·have:L=0:=by omega
   subst this;rw[qeN]at h;omega
theorem qbI (v:Nat→Nat)(z1 z2 o:List Int)(sa pe kv mv:Value)(la:Bool)(aj:Int)(G:Nat)(w:World)(hN:Yv true w G v sa pe kv la mv aj)(hP:ParOk true v)(h1:Hold w sa z1)(h2:Hold w pe z2)(aD:z1.length≤16)(aI:z2.length≤16)(hM:Hold w mv o)(bc:(o.length:Int)≤281474976710656):
  Calls Tryz.prog 176 #[.pointer (some ⟨G,0,none⟩)] w fun e w'=>e= .returned (.tuple #[.agg (qj .u64 (qM (stZ true (h0Z true (QT true v z1 z2)) o (nbk 128 o.length)))),.int .u64 ((128*nbk 128 o.length:Nat):Int),.int .u64 0,.int .i64 ((128*nbk 128 o.length:Nat):Int)])∧Below w.heap.size w w':=by
 obtain⟨S,V⟩:=Ex w.heap.size;obtain⟨ma,mc,rfl,aS,aT⟩:=hM.slice;have aC:G<S:=by rw[←V];exact(Ai hN).1
 have az:=fun(W:World) (J:Below S w W)=>qcw v z1 z2 sa pe kv (.slice ma o.length mc) la aj G W ((J.block G aC).trans hN) hP (h1.below (V▸J)) (h2.below (V▸J)) aD aI
 have aE:=fun(W:World) (J:Below S w W)=>hM.below (V▸J)
 have ai:=Q0 true (QT true v z1 z2);generalize h0Z true (QT true v z1 z2)=U at*;have aB:=fun k=>Yk true ai o k
 obtain⟨Q,hQ⟩:=Ex (nbk 128 o.length);have aa:=fun(k:Nat) (hk:k≤Q)=>(hQ▸qiy (n:=128) (L:=o.length) (by decide) (hQ▸hk):(128*k+128<o.length↔k<Q))
 have bi:128*Q≤o.length:=by rw[←hQ];exact(Yw (by decide) _).1
 rw[hQ];have aJ:w.heap[G]? =some (.cells (rN 1 v sa pe kv la (.slice ma o.length mc) aj) 254 (0,0)):=hN;have ax:=hid az;have aP:=hid aE;have au:=hid aB;have aN:=hid aa;have aU:=hid aJ;have aX:=hid hM.1;clear hN aJ az aE aB hQ aa hP h1 h2 hM aS aT aD aI;go_enter Tryz.func176,Tryz.ntmps176
 go_wp2_with fail
 have av:Below S w (w.alloc (.cells #[.int .u64 0,.int .u64 0,.int .u64 0,.int .u64 0,.int .u64 0,.int .u64 0,.int .u64 0,.int .u64 0,.int .u64 0,.int .u64 0,.int .u64 0,.int .u64 0,.int .u64 0,.int .u64 0,.int .u64 0,.int .u64 0] 252)):=by rw[←V];exact Br.alloc Nl _
 have r0:(w.alloc (.cells #[.int .u64 0,.int .u64 0,.int .u64 0,.int .u64 0,.int .u64 0,.int .u64 0,.int .u64 0,.int .u64 0,.int .u64 0,.int .u64 0,.int .u64 0,.int .u64 0,.int .u64 0,.int .u64 0,.int .u64 0,.int .u64 0] 252)).heap[S]? =some (.cells #[.int .u64 0,.int .u64 0,.int .u64 0,.int .u64 0,.int .u64 0,.int .u64 0,.int .u64 0,.int .u64 0,.int .u64 0,.int .u64 0,.int .u64 0,.int .u64 0,.int .u64 0,.int .u64 0,.int .u64 0,.int .u64 0] 252 (0,0)):=by rw[←V];exact Wn _ _
 have a3:(w.alloc (.cells #[.int .u64 0,.int .u64 0,.int .u64 0,.int .u64 0,.int .u64 0,.int .u64 0,.int .u64 0,.int .u64 0,.int .u64 0,.int .u64 0,.int .u64 0,.int .u64 0,.int .u64 0,.int .u64 0,.int .u64 0,.int .u64 0] 252)).heap.size=S+1:=by simp[V]
 generalize (w.alloc (.cells #[.int .u64 0,.int .u64 0,.int .u64 0,.int .u64 0,.int .u64 0,.int .u64 0,.int .u64 0,.int .u64 0,.int .u64 0,.int .u64 0,.int .u64 0,.int .u64 0,.int .u64 0,.int .u64 0,.int .u64 0,.int .u64 0] 252))=W1 at*;refine(ax.out W1 av).mono ?_;rintro e w2 ⟨rfl,am⟩;have ab:=am.size;have aA:=qf r0 am;have aH:=av.trans (am.mono (by omega));have R0:=hid aA;have aF:=hid aH;clear av r0 am aA aH ax;have aL:=hid (Qe (by decide) ai);clear ai;go_upto_region 2 with((with_reducible show wpList _ _ _ (Oper.mk none (Op.store 252 _ _) _ _ _ _::_) _ _);refine wpList_store_row rfl 252 _ _ rfl w2.heap.size (qj .u64 (qM U)) rfl rfl 252 _ (Wn _ _) (by rw[qg,aL.out.1];kernel_rfl) (by rw[qg,aL.out.1];rfl) qy ?_)
 refine qm ?_;intro W O;obtain⟨Y,ao⟩:=Ex w2.heap.size;have m6:W.heap[Y]? =some (.cells (qj .u64 (qM (stZ true U o 0))) 252 (0,0)):=by rw[O,←ao];exact setRow_heap _ _ _ _ _ _ (Wn _ _)
 have m0:W.heap[S]? =some (.cells #[.int .u64 0,.int .u64 0,.int .u64 0,.int .u64 0,.int .u64 0,.int .u64 0,.int .u64 0,.int .u64 0,.int .u64 0,.int .u64 0,.int .u64 0,.int .u64 0,.int .u64 0,.int .u64 0,.int .u64 0,.int .u64 0] 252 (0,0)):=by rw[O];exact(setRow_other (w2.alloc _) _ _ _ (by omega)).trans ((Bh _ _ _ (by omega)).trans R0.out)
 have ag:Below S w W:=by rw[O];exact below_setRow (aF.out.alloc (by omega) _) (by omega) _
 have mn:W.heap[G]? =some (.cells (rN 1 v sa pe kv la (.slice ma o.length mc) aj) 254 (0,0)):=(ag.block G aC).trans aU.out;rw[ao];have be:S<Y:=by omega
 have bg:Y<W.heap.size:=(Ai m6).1;have bj:W.cell? ⟨G,31,none⟩=some (.int .u64 0):=qd mn 31;have bl:W.cell? ⟨G,32,none⟩=some (.int .u64 0):=qd mn 32;have bw:W.cell? ⟨G,0,none⟩=some (.int .i64 1):=qd mn 0;have M6:=hid m6;have M0:=hid m0;have MN:=hid mn;have aY:=hid ag;clear O ao m6 m0 mn ag R0 aF a3 ab;go_wp2_with fail
 refine(zn true _).mono ?_;rintro e w4 ⟨rfl,hw⟩;rw[hw];clear hw;rw[show((bB true:Nat):Int)=128 from rfl];go_wp2_with fail
 go_loopw [7,8,10] (fun lo hi at_ wr=> ∃k:Nat,lo= .int .u64 ((128*k:Nat):Int)∧hi= .int .u64 0∧at_= .int .i64 ((128*k:Nat):Int)∧k≤Q∧wr.heap[Y]? =some (.cells (qj .u64 (qM (stZ true U o k))) 252 (0,0))∧But Y W wr) (fun _ _ at_ _=>o.length - (intOf at_).toNat)
 case atStart=>exact⟨0,rfl,rfl,rfl,Nat.zero_le _,M6.out,But.refl _ _⟩
 case round=>
  obtain⟨k,rfl,rfl,rfl,hk,ae,J⟩:=hrel;have aQ:Y<wr.heap.size:=by have:=J.size;omega
  have hn:=(J.block G (by omega) (by omega)).trans MN.out;have bb:wr.cell? ⟨G,33,none⟩=some (.slice ma o.length mc):=qd hn 33;have aZ:G<wr.heap.size:=by omega
  have aw:Below S w wr:=aY.out.trans (J.below (by omega) (by omega));have ac:=aN.out k hk;have aq:128*k≤128*Q:=Nat.mul_le_mul_left _ hk;obtain⟨s,hs⟩:=Ex (128*k);have ab:128*(k+1)=s+128:=by rw[←hs];exact Nat.mul_succ _ _
  have aR:=hid (show qaE 128 o k=QG 128 ((o.drop s).take 128) by unfold qaE;rw[hs]);have aK:=hid ab;have HS:=hid hs;rw[hs]at ac aq⊢;have al:=au.out k;have af:stZ true U o (k+1)=yJ true (stZ true U o k) (QG 128 ((o.drop s).take 128)) ((s+128:Nat):Int) false false:=by
   show yJ true (stZ true U o k) (qaE (bB true) o k) ((bB true*(k+1):Nat):Int) false false=_
   rw[show bB true=128 from rfl,aR.out,ab]
  have ak:=hid ae;have a4:=hid J;have aG:=hid hn;have ad:=hid aw;have ah:=hid al;have ay:=hid af;clear hs ab;have bp:(s:Int)≤o.length:=by omega
  by_cases aa:k<Q
  case neg=>
   obtain rfl:k=Q:=by omega
   have br: ¬((s:Int)+128<o.length):=by have:=ac;omega
   have n0:=(J.block S (by omega) (by omega)).trans M0.out;have I:=Qe (by decide) al;have bd:S<wr.heap.size:=by omega
   clear J hn aw al af ac aa aq;go_wp2_with (first|((with_reducible show wpList _ _ _ (Oper.mk (some 62) _ _ _ _ _::_) _ _);refine wpList_load_row rfl 252 _ rfl Y rfl _ _ _ _ ae Tryz.underlying252 rfl (by rw[qg,I.1];kernel_rfl) ?_)|((with_reducible show wpList _ _ _ (Oper.mk none (Op.store 252 _ _) _ _ _ _::_) _ _);refine wpList_store_row rfl 252 _ _ rfl S (qj .u64 (qM (stZ true U o k))) rfl rfl 252 _ n0 (by rw[qg,I.1];kernel_rfl) (by rw[qg,I.1];rfl) qy ?_))
   exact Bp (Zw rfl _ _ S 252 _ _ _ rfl (setRow_heap _ _ _ _ _ _ n0) Tryz.underlying252 rfl (by rw[qg,I.1];kernel_rfl)) rfl ⟨by rw[show((128:Int)*(k:Int))=(s:Int) from by have:=HS.out;omega];rfl,by first|exact below_setRow ad.out Nl _|(rw[V];exact below_setRow ad.out Nl _)⟩
  have bf:(s:Int)+128<o.length:=by have:=ac.2 aa;omega
  have ar:(s:Int)+128<9223372036854775808:=by omega
  have aV:=hid ar;clear ae J hn aw al af ac aq ar;go_wp2_with fail
  refine(jM s 128 (by omega) _).mono ?_;rintro e w4 ⟨rfl,hw⟩;rw[hw];clear hw;go_upto_region 8 with(fail)
  refine qI (n:=15) (w0:=wr) (B:=wr.heap.size) [.z 44 G 0,.z 45 G 0,.z 46 G 0,.v 47 (.int .i64 1),.v 48 (.agg (qj .u64 (qM (stZ true U o k)))),.z 49 G 0,.z 50 G 0,.z 51 G 33,.v 52 (.slice ma o.length mc),.v 53 (.int .i64 s),.v 54 (.int .i64 128),.p 55 (fun u W=>W.ownsRow wr.heap.size 5 1 u 128 ((QG 128 ((o.drop s).take 128)).map qo)),.v 56 (.int .u64 ((s:Int)+128)),.v 57 (.int .u64 0),.v 58 (.agg (qj .u64 (qM (stZ true U o (k+1)))))] (by exact⟨(fun _ _ _ h J=>qi h (fun g _ hg=>J.block g hg)),trivial⟩) Br.drew Nl ?_ ?_
  ·repeat' (with_reducible first|exact qB|refine qw ?_ ?_)
   all_goals try
    intro A x W r O X q D K Z;have a0:=r.2 0 (by decide);conv at a0=>rhs;whnf
    have ba:=r.2 10 (by decide);conv at ba=>rhs;whnf
    have a9:=r.2 9 (by decide);conv at a9=>rhs;whnf
    have a7:=r.2 7 (by decide);conv at a7=>rhs;whnf
    have a8:=r.2 8 (by decide);conv at a8=>rhs;whnf
    simp only[Q7,yk]at D;clear q r;go_simp
    exact Z _ _ BR rfl
   ·intro A x W r O X q _ K Z;have bs:=gv r q 2 46;clear q r;have g0:=qf aG.out O;have c0:W.cell? ⟨G,0,none⟩=some (.int .i64 1):=qd g0 0;go_simp
    exact Z _ _ BR rfl
   ·intro A x W r O X q _ K Z;have a6:=r.2 6 (by decide);conv at a6=>rhs;whnf
    clear q r;have g0:=qf ak.out O;have I:=Qe (by decide) ah.out;refine wp_load_row 252 _ rfl Y a6 _ _ _ _ g0 Tryz.underlying252 rfl (by rw[qg,I.1];kernel_rfl) (Z _ _ Br rfl)
   ·intro A x W r O X q _ K Z;have bk:=gv r q 7 51;clear q r;have g0:=qf aG.out O;have c0:W.cell? ⟨G,33,none⟩=some (.slice ma o.length mc):=qd g0 33;go_simp
    exact Z _ _ BR rfl
   ·intro A x W r O X q _ K Z;have bv:=gv r q 8 52;have bq:=gv r q 9 53;have bo:=gv r q 10 54;clear q r;go_simp
    refine(jL o _ s 128 W (aP.out W (ad.out.trans (O.mono (by omega)))) (by decide) (by omega) bc).mono ?_;rintro e w' ⟨u,rfl,ho,J⟩;exact Z _ _ J (ownsRow_le ho X)
   ·intro A x W r O X q _ K Z;have bu:=gv r q 3 47;have bn:=gv r q 4 48;have a5:(fun u W=>W.ownsRow wr.heap.size 5 1 u 128 ((QG 128 ((o.drop s).take 128)).map qo)) (x 55) W:=q ⟨11,.data⟩ (by simp) rfl _ rfl;have bt:A.tmps.getD 55 undef=x 55:=r.1 55 (by decide);have bm:=gv r q 12 56;have bh:=gv r q 13 57;clear q r;have aW:=yq (n:=128) (zs:=(o.drop s).take 128) (fun z hz=>aX.out z (List.mem_of_mem_drop (List.mem_of_mem_take hz)));go_simp
    rw[show(s:Int)+128=((s+128:Nat):Int) from rfl];refine(qbL (stZ true U o k) (QG 128 ((o.drop s).take 128)) ah.out _ (s+128) aV.out false false W (yf a5) aW (QO (List.length_take_le _ _))).mono ?_;rintro e w' ⟨rfl,J⟩;rw[←ay.out];exact Z _ _ J rfl
  intro x W O X aO;obtain⟨aM, -⟩:=aO;change (fun u W=>W.ownsRow wr.heap.size 5 1 u 128 ((QG 128 ((o.drop s).take 128)).map qo)) (x 55) W at aM
  refine qr ?_;simp only[QP,Act.put,Ls];have ap:=qf ak.out O;have I:=Qe (by decide) (au.out (k+1));have an:=Qe (by decide) ah.out;refine wpList_store_row rfl 252 _ _ rfl Y (qj .u64 (qM (stZ true U o (k+1)))) rfl rfl 252 _ ap (by rw[qg,I.1];kernel_rfl) (by rw[qg,qg,I.1,an.1]) qy ?_;refine qv ?_;have HA:=hid (setRow_heap _ Y _ (qj .u64 (qM (stZ true U o (k+1)))) _ _ ap);have HC:=hid (a4.out.trans ((But.of_below O).trans (But.of_setRow _ Y (qj .u64 (qM (stZ true U o (k+1)))))));clear ap I an aM O X bb aZ aQ;go_wp2
  refine⟨⟨k+1,by rw[aK.out];rfl,rfl,by rw[aK.out];rfl,by omega,HA.out,HC.out⟩,?_⟩;simp[intOf];omega
theorem qbe (v:Nat→Nat)(z1 z2 o:List Int)(sa pe kv mv:Value)(la:Bool)(aj:Int)(G:Nat)(w:World)(hN:Yv false w G v sa pe kv la mv aj)(hP:ParOk false v)(h1:Hold w sa z1)(h2:Hold w pe z2)(aD:z1.length≤8)(aI:z2.length≤8)(hM:Hold w mv o)(bc:(o.length:Int)≤281474976710656):
  Calls Tryz.prog 176 #[.pointer (some ⟨G,0,none⟩)] w fun e w'=>e= .returned (.tuple #[.agg (qj .u64 (qM (stZ false (h0Z false (QT false v z1 z2)) o (nbk 64 o.length)))),.int .u64 ((64*nbk 64 o.length:Nat):Int),.int .u64 0,.int .i64 ((64*nbk 64 o.length:Nat):Int)])∧Below w.heap.size w w':=by
 obtain⟨S,V⟩:=Ex w.heap.size;obtain⟨ma,mc,rfl,aS,aT⟩:=hM.slice;have aC:G<S:=by rw[←V];exact(Ai hN).1
 have az:=fun(W:World) (J:Below S w W)=>qbO v z1 z2 sa pe kv (.slice ma o.length mc) la aj G W ((J.block G aC).trans hN) hP (h1.below (V▸J)) (h2.below (V▸J)) aD aI
 have aE:=fun(W:World) (J:Below S w W)=>hM.below (V▸J)
 have ai:=Q0 false (QT false v z1 z2);generalize h0Z false (QT false v z1 z2)=U at*;have aB:=fun k=>Yk false ai o k
 obtain⟨Q,hQ⟩:=Ex (nbk 64 o.length);have aa:=fun(k:Nat) (hk:k≤Q)=>(hQ▸qiy (n:=64) (L:=o.length) (by decide) (hQ▸hk):(64*k+64<o.length↔k<Q))
 have bi:64*Q≤o.length:=by rw[←hQ];exact(Yw (by decide) _).1
 rw[hQ];have aJ:w.heap[G]? =some (.cells (rN 2 v sa pe kv la (.slice ma o.length mc) aj) 254 (0,0)):=hN;have ax:=hid az;have aP:=hid aE;have au:=hid aB;have aN:=hid aa;have aU:=hid aJ;have aX:=hid hM.1;clear hN aJ az aE aB hQ aa hP h1 h2 hM aS aT aD aI;go_enter Tryz.func176,Tryz.ntmps176
 go_wp2_with fail
 have av:Below S w (w.alloc (.cells #[.int .u64 0,.int .u64 0,.int .u64 0,.int .u64 0,.int .u64 0,.int .u64 0,.int .u64 0,.int .u64 0,.int .u64 0,.int .u64 0,.int .u64 0,.int .u64 0,.int .u64 0,.int .u64 0,.int .u64 0,.int .u64 0] 252)):=by rw[←V];exact Br.alloc Nl _
 have r0:(w.alloc (.cells #[.int .u64 0,.int .u64 0,.int .u64 0,.int .u64 0,.int .u64 0,.int .u64 0,.int .u64 0,.int .u64 0,.int .u64 0,.int .u64 0,.int .u64 0,.int .u64 0,.int .u64 0,.int .u64 0,.int .u64 0,.int .u64 0] 252)).heap[S]? =some (.cells #[.int .u64 0,.int .u64 0,.int .u64 0,.int .u64 0,.int .u64 0,.int .u64 0,.int .u64 0,.int .u64 0,.int .u64 0,.int .u64 0,.int .u64 0,.int .u64 0,.int .u64 0,.int .u64 0,.int .u64 0,.int .u64 0] 252 (0,0)):=by rw[←V];exact Wn _ _
 have a3:(w.alloc (.cells #[.int .u64 0,.int .u64 0,.int .u64 0,.int .u64 0,.int .u64 0,.int .u64 0,.int .u64 0,.int .u64 0,.int .u64 0,.int .u64 0,.int .u64 0,.int .u64 0,.int .u64 0,.int .u64 0,.int .u64 0,.int .u64 0] 252)).heap.size=S+1:=by simp[V]
 generalize (w.alloc (.cells #[.int .u64 0,.int .u64 0,.int .u64 0,.int .u64 0,.int .u64 0,.int .u64 0,.int .u64 0,.int .u64 0,.int .u64 0,.int .u64 0,.int .u64 0,.int .u64 0,.int .u64 0,.int .u64 0,.int .u64 0,.int .u64 0] 252))=W1 at*;refine(ax.out W1 av).mono ?_;rintro e w2 ⟨rfl,am⟩;have ab:=am.size;have aA:=qf r0 am;have aH:=av.trans (am.mono (by omega));have R0:=hid aA;have aF:=hid aH;clear av r0 am aA aH ax;have aL:=hid (Qe (by decide) ai);clear ai;go_upto_region 2 with((with_reducible show wpList _ _ _ (Oper.mk none (Op.store 252 _ _) _ _ _ _::_) _ _);refine wpList_store_row rfl 252 _ _ rfl w2.heap.size (qj .u64 (qM U)) rfl rfl 252 _ (Wn _ _) (by rw[qg,aL.out.1];kernel_rfl) (by rw[qg,aL.out.1];rfl) qy ?_)
 refine qm ?_;intro W O;obtain⟨Y,ao⟩:=Ex w2.heap.size;have m6:W.heap[Y]? =some (.cells (qj .u64 (qM (stZ false U o 0))) 252 (0,0)):=by rw[O,←ao];exact setRow_heap _ _ _ _ _ _ (Wn _ _)
 have m0:W.heap[S]? =some (.cells #[.int .u64 0,.int .u64 0,.int .u64 0,.int .u64 0,.int .u64 0,.int .u64 0,.int .u64 0,.int .u64 0,.int .u64 0,.int .u64 0,.int .u64 0,.int .u64 0,.int .u64 0,.int .u64 0,.int .u64 0,.int .u64 0] 252 (0,0)):=by rw[O];exact(setRow_other (w2.alloc _) _ _ _ (by omega)).trans ((Bh _ _ _ (by omega)).trans R0.out)
 have ag:Below S w W:=by rw[O];exact below_setRow (aF.out.alloc (by omega) _) (by omega) _
 have mn:W.heap[G]? =some (.cells (rN 2 v sa pe kv la (.slice ma o.length mc) aj) 254 (0,0)):=(ag.block G aC).trans aU.out;rw[ao];have be:S<Y:=by omega
 have bg:Y<W.heap.size:=(Ai m6).1;have bj:W.cell? ⟨G,31,none⟩=some (.int .u64 0):=qd mn 31;have bl:W.cell? ⟨G,32,none⟩=some (.int .u64 0):=qd mn 32;have bw:W.cell? ⟨G,0,none⟩=some (.int .i64 2):=qd mn 0;have M6:=hid m6;have M0:=hid m0;have MN:=hid mn;have aY:=hid ag;clear O ao m6 m0 mn ag R0 aF a3 ab;go_wp2_with fail
 refine(zn false _).mono ?_;rintro e w4 ⟨rfl,hw⟩;rw[hw];clear hw;rw[show((bB false:Nat):Int)=64 from rfl];go_wp2_with fail
 go_loopw [7,8,10] (fun lo hi at_ wr=> ∃k:Nat,lo= .int .u64 ((64*k:Nat):Int)∧hi= .int .u64 0∧at_= .int .i64 ((64*k:Nat):Int)∧k≤Q∧wr.heap[Y]? =some (.cells (qj .u64 (qM (stZ false U o k))) 252 (0,0))∧But Y W wr) (fun _ _ at_ _=>o.length - (intOf at_).toNat)
 case atStart=>exact⟨0,rfl,rfl,rfl,Nat.zero_le _,M6.out,But.refl _ _⟩
 case round=>
  obtain⟨k,rfl,rfl,rfl,hk,ae,J⟩:=hrel;have aQ:Y<wr.heap.size:=by have:=J.size;omega
  have hn:=(J.block G (by omega) (by omega)).trans MN.out;have bb:wr.cell? ⟨G,33,none⟩=some (.slice ma o.length mc):=qd hn 33;have aZ:G<wr.heap.size:=by omega
  have aw:Below S w wr:=aY.out.trans (J.below (by omega) (by omega));have ac:=aN.out k hk;have aq:64*k≤64*Q:=Nat.mul_le_mul_left _ hk;obtain⟨s,hs⟩:=Ex (64*k);have ab:64*(k+1)=s+64:=by rw[←hs];exact Nat.mul_succ _ _
  have aR:=hid (show qaE 64 o k=QG 64 ((o.drop s).take 64) by unfold qaE;rw[hs]);have aK:=hid ab;have HS:=hid hs;rw[hs]at ac aq⊢;have al:=au.out k;have af:stZ false U o (k+1)=yJ false (stZ false U o k) (QG 64 ((o.drop s).take 64)) ((s+64:Nat):Int) false false:=by
   show yJ false (stZ false U o k) (qaE (bB false) o k) ((bB false*(k+1):Nat):Int) false false=_
   rw[show bB false=64 from rfl,aR.out,ab]
  have ak:=hid ae;have a4:=hid J;have aG:=hid hn;have ad:=hid aw;have ah:=hid al;have ay:=hid af;clear hs ab;have bp:(s:Int)≤o.length:=by omega
  by_cases aa:k<Q
  case neg=>
   obtain rfl:k=Q:=by omega
   have br: ¬((s:Int)+64<o.length):=by have:=ac;omega
   have n0:=(J.block S (by omega) (by omega)).trans M0.out;have I:=Qe (by decide) al;have bd:S<wr.heap.size:=by omega
   clear J hn aw al af ac aa aq;go_wp2_with (first|((with_reducible show wpList _ _ _ (Oper.mk (some 62) _ _ _ _ _::_) _ _);refine wpList_load_row rfl 252 _ rfl Y rfl _ _ _ _ ae Tryz.underlying252 rfl (by rw[qg,I.1];kernel_rfl) ?_)|((with_reducible show wpList _ _ _ (Oper.mk none (Op.store 252 _ _) _ _ _ _::_) _ _);refine wpList_store_row rfl 252 _ _ rfl S (qj .u64 (qM (stZ false U o k))) rfl rfl 252 _ n0 (by rw[qg,I.1];kernel_rfl) (by rw[qg,I.1];rfl) qy ?_))
   exact Bp (Zw rfl _ _ S 252 _ _ _ rfl (setRow_heap _ _ _ _ _ _ n0) Tryz.underlying252 rfl (by rw[qg,I.1];kernel_rfl)) rfl ⟨by rw[show((64:Int)*(k:Int))=(s:Int) from by have:=HS.out;omega];rfl,by first|exact below_setRow ad.out Nl _|(rw[V];exact below_setRow ad.out Nl _)⟩
  have bf:(s:Int)+64<o.length:=by have:=ac.2 aa;omega
  have ar:(s:Int)+64<9223372036854775808:=by omega
  have aV:=hid ar;clear ae J hn aw al af ac aq ar;go_wp2_with fail
  refine(jM s 64 (by omega) _).mono ?_;rintro e w4 ⟨rfl,hw⟩;rw[hw];clear hw;go_upto_region 8 with(fail)
  refine qI (n:=15) (w0:=wr) (B:=wr.heap.size) [.z 44 G 0,.z 45 G 0,.z 46 G 0,.v 47 (.int .i64 2),.v 48 (.agg (qj .u64 (qM (stZ false U o k)))),.z 49 G 0,.z 50 G 0,.z 51 G 33,.v 52 (.slice ma o.length mc),.v 53 (.int .i64 s),.v 54 (.int .i64 64),.p 55 (fun u W=>W.ownsRow wr.heap.size 5 1 u 64 ((QG 64 ((o.drop s).take 64)).map qo)),.v 56 (.int .u64 ((s:Int)+64)),.v 57 (.int .u64 0),.v 58 (.agg (qj .u64 (qM (stZ false U o (k+1)))))] (by exact⟨(fun _ _ _ h J=>qi h (fun g _ hg=>J.block g hg)),trivial⟩) Br.drew Nl ?_ ?_
  ·repeat' (with_reducible first|exact qB|refine qw ?_ ?_)
   all_goals try
    intro A x W r O X q D K Z;have a0:=r.2 0 (by decide);conv at a0=>rhs;whnf
    have ba:=r.2 10 (by decide);conv at ba=>rhs;whnf
    have a9:=r.2 9 (by decide);conv at a9=>rhs;whnf
    have a7:=r.2 7 (by decide);conv at a7=>rhs;whnf
    have a8:=r.2 8 (by decide);conv at a8=>rhs;whnf
    simp only[Q7,yk]at D;clear q r;go_simp
    exact Z _ _ BR rfl
   ·intro A x W r O X q _ K Z;have bs:=gv r q 2 46;clear q r;have g0:=qf aG.out O;have c0:W.cell? ⟨G,0,none⟩=some (.int .i64 2):=qd g0 0;go_simp
    exact Z _ _ BR rfl
   ·intro A x W r O X q _ K Z;have a6:=r.2 6 (by decide);conv at a6=>rhs;whnf
    clear q r;have g0:=qf ak.out O;have I:=Qe (by decide) ah.out;refine wp_load_row 252 _ rfl Y a6 _ _ _ _ g0 Tryz.underlying252 rfl (by rw[qg,I.1];kernel_rfl) (Z _ _ Br rfl)
   ·intro A x W r O X q _ K Z;have bk:=gv r q 7 51;clear q r;have g0:=qf aG.out O;have c0:W.cell? ⟨G,33,none⟩=some (.slice ma o.length mc):=qd g0 33;go_simp
    exact Z _ _ BR rfl
   ·intro A x W r O X q _ K Z;have bv:=gv r q 8 52;have bq:=gv r q 9 53;have bo:=gv r q 10 54;clear q r;go_simp
    refine(jL o _ s 64 W (aP.out W (ad.out.trans (O.mono (by omega)))) (by decide) (by omega) bc).mono ?_;rintro e w' ⟨u,rfl,ho,J⟩;exact Z _ _ J (ownsRow_le ho X)
   ·intro A x W r O X q _ K Z;have bu:=gv r q 3 47;have bn:=gv r q 4 48;have a5:(fun u W=>W.ownsRow wr.heap.size 5 1 u 64 ((QG 64 ((o.drop s).take 64)).map qo)) (x 55) W:=q ⟨11,.data⟩ (by simp) rfl _ rfl;have bt:A.tmps.getD 55 undef=x 55:=r.1 55 (by decide);have bm:=gv r q 12 56;have bh:=gv r q 13 57;clear q r;have aW:=yq (n:=64) (zs:=(o.drop s).take 64) (fun z hz=>aX.out z (List.mem_of_mem_drop (List.mem_of_mem_take hz)));go_simp
    rw[show(s:Int)+64=((s+64:Nat):Int) from rfl];refine(qaT (stZ false U o k) (QG 64 ((o.drop s).take 64)) ah.out _ (s+64) aV.out false false W (yf a5) aW (QO (List.length_take_le _ _))).mono ?_;rintro e w' ⟨rfl,J⟩;rw[←ay.out];exact Z _ _ J rfl
  intro x W O X aO;obtain⟨aM, -⟩:=aO;change (fun u W=>W.ownsRow wr.heap.size 5 1 u 64 ((QG 64 ((o.drop s).take 64)).map qo)) (x 55) W at aM
  refine qr ?_;simp only[QP,Act.put,Ls];have ap:=qf ak.out O;have I:=Qe (by decide) (au.out (k+1));have an:=Qe (by decide) ah.out;refine wpList_store_row rfl 252 _ _ rfl Y (qj .u64 (qM (stZ false U o (k+1)))) rfl rfl 252 _ ap (by rw[qg,I.1];kernel_rfl) (by rw[qg,qg,I.1,an.1]) qy ?_;refine qv ?_;have HA:=hid (setRow_heap _ Y _ (qj .u64 (qM (stZ false U o (k+1)))) _ _ ap);have HC:=hid (a4.out.trans ((But.of_below O).trans (But.of_setRow _ Y (qj .u64 (qM (stZ false U o (k+1)))))));clear ap I an aM O X bb aZ aQ;go_wp2
  refine⟨⟨k+1,by rw[aK.out];rfl,rfl,by rw[aK.out];rfl,by omega,HA.out,HC.out⟩,?_⟩;simp[intOf];omega
theorem ZP (n:Nat){h g:List Int}: ∀i,(∀j,j<i→wd h j=wd g j)→qQ n h i=qQ n g i
 | 0,_=>rfl
 | i+1,H=>by rw[qQ,qQ,ZP n i (fun j o=>H j (by omega)),H i (by omega)]
theorem qew (v:Nat→Nat)(z1 z2 q:List Int)(sa pe kv mv:Value)(la:Bool)(aa:Int)(G:Nat)(w:World)(hN:Yv true w G v sa pe kv la mv aa)(hP:ParOk true v)(h1:Hold w sa z1)(h2:Hold w pe z2)(au:z1.length≤16)(ay:z2.length≤16)(hM:Hold w mv q)(aA:(q.length:Int)≤281474976710656):
  Calls Tryz.prog 156 #[.pointer (some ⟨G,0,none⟩)] w fun e w'=> ∃u,e= .returned u∧w'.ownsRow w.heap.size 5 1 u 64 ((zU true (h0Z true (QT true v z1 z2)) q la).map qo)∧Below w.heap.size w w':=by
 obtain⟨b0,Z⟩:=Ex w.heap.size;have ai:=qbI v z1 z2 q sa pe kv mv la aa G w hN hP h1 h2 au ay hM aA;obtain⟨ma,mc,rfl,aD,aE⟩:=hM.slice;have aL:G<b0:=by rw[←Z];exact(Ai hN).1
 have av:=fun(W:World) (U:Below b0 w W)=>hM.below (Z▸U)
 have aj:=Q0 true (QT true v z1 z2);generalize h0Z true (QT true v z1 z2)=H0 at*;have ab:=Yk true aj q (nbk 128 q.length);have ae:=Yw (n:=128) (by decide) q.length;have ag:zU true H0 q la=qQ 8 (yJ true (stZ true H0 q (nbk 128 q.length)) (QG 128 ((q.drop (128*nbk 128 q.length)).take 128)) (q.length:Int) true la) 8:=rfl;rw[ag];obtain⟨ST,ao⟩:=Ex (stZ true H0 q (nbk 128 q.length));obtain⟨s,hs⟩:=Ex (128*nbk 128 q.length);rw[ao,hs]at ai⊢;rw[ao]at ab;rw[hs]at ae;obtain⟨R,hR⟩:=Ex (yJ true ST (QG 128 ((q.drop s).take 128)) (q.length:Int) true la);have ad:Words 64 8 R:=by rw[←hR];exact QX true ab _ _ _ _
 rw[hR];have ax:qQ 8 R 8=qQ 8 (qM R) 8:=ZP 8 8 (fun j hj=>(qbl ad.1 hj).symm);rw[ax];have bd:s≤q.length:=ae.1;have az:w.heap[G]? =some (.cells (rN 1 v sa pe kv la (.slice ma q.length mc) aa) 254 (0,0)):=hN;have aw:=hM.1;have ak:=hid ai;have aC:=hid av;have ah:=hid ab;have aJ:=hid hR;have aG:=hid ad;have aF:=hid az;have aH:=hid aw;clear ag ax ao hs ae hR ad ai av ab hN az aw aj hP h1 h2 hM aD aE au ay;go_enter Tryz.func156,Tryz.ntmps156
 go_wp2_with fail
 refine ak.out.mono ?_;rintro e w2 ⟨rfl,an⟩;have Y:=hid (Qe (by decide) ah.out);have af:=an.size;have aq:=hid an;clear an;go_upto_region 2 with((with_reducible show wpList _ _ _ (Oper.mk none (Op.store 252 _ _) _ _ _ _::_) _ _);refine wpList_store_row rfl 252 _ _ rfl w2.heap.size (qj .u64 (qM ST)) rfl rfl 252 _ (Wn _ _) (by rw[qg,Y.out.1];kernel_rfl) (by rw[qg,Y.out.1];rfl) qy ?_)
 refine qm ?_;intro S I;obtain⟨b3,ac⟩:=Ex w2.heap.size;have m3:S.heap[b3]? =some (.cells (qj .u64 (qM ST)) 252 (0,0)):=by rw[I,←ac];exact setRow_heap _ _ _ _ _ _ (Wn _ _)
 have X:Below b0 w S:=by rw[I,←Z];exact below_setRow (aq.out.alloc af _) af _
 have mn:S.heap[G]? =some (.cells (rN 1 v sa pe kv la (.slice ma q.length mc) aa) 254 (0,0)):=(X.block G aL).trans aF.out;rw[ac];have aQ:b0≤b3:=by omega
 have aR:b3<S.heap.size:=(Ai m3).1;have bh:G<S.heap.size:=by omega
 have bj:S.cell? ⟨G,33,none⟩=some (.slice ma q.length mc):=qd mn 33;have M3:=hid m3;have MN:=hid mn;have am:=hid X;clear I ac m3 mn X aq af ak;have aV:(s:Int)≤q.length:=by omega
 have al:((q.length:Int) - s)=((q.length - s:Nat):Int):=by omega
 have aM:IntKind.u64.wrap ((q.length:Int) - s)=((q.length - s:Nat):Int):=by rw[al];exact u64_wrap_id _ (by omega) (by omega)
 have a9:=hid al;clear al;go_wp2_with fail
 refine(jM s (q.length - s) (by omega) _).mono ?_;rintro e w4 ⟨rfl,hw⟩;rw[hw];clear hw;rw[show s+(q.length - s)=q.length by omega];clear aM;go_upto_region 3 with(fail)
 refine qI (n:=29) (w0:=S) (B:=S.heap.size) [.z 29 G 0,.z 30 G 0,.z 31 G 0,.v 32 (.int .i64 1),.z 33 G 0,.z 34 G 0,.z 35 G 0,.v 36 (.int .i64 1),.v 37 (.agg (qj .u64 (qM ST))),.z 38 G 0,.z 39 G 0,.z 40 G 33,.v 41 (.slice ma q.length mc),.v 42 (.int .i64 s),.z 43 G 0,.z 44 G 0,.z 45 G 0,.v 46 (.int .i64 1),.v 47 (.int .i64 128),.p 48 (fun u W=>W.ownsRow S.heap.size 5 1 u 128 ((QG 128 ((q.drop s).take 128)).map qo)),.v 49 (.int .u64 (q.length:Nat)),.v 50 (.int .u64 0),.z 51 G 0,.z 52 G 0,.z 53 G 13,.v 54 (.bool la),.v 55 (.agg (qj .u64 (qM R))),.p 56 (fun u W=>W.ownsRow S.heap.size 5 1 u 64 ((qQ 8 (qM R) 8).map qo)),.p 2 (fun u W=>W.ownsRow S.heap.size 5 1 u 64 ((qQ 8 (qM R) 8).map qo))] (by exact⟨(fun _ _ _ h U=>qi h (fun g _ hg=>U.block g hg)),(fun _ _ _ h U=>qi h (fun g _ hg=>U.block g hg)),(fun _ _ _ h U=>qi h (fun g _ hg=>U.block g hg)),trivial⟩) Br.drew Nl ?_ ?_
 ·repeat' (with_reducible first|exact qB|refine qw ?_ ?_)
  all_goals try
   intro A x W r I J o D K O;have a0:=r.2 0 (by decide);conv at a0=>rhs;whnf
   have a6:=r.2 6 (by decide);conv at a6=>rhs;whnf
   have a4:=r.2 4 (by decide);conv at a4=>rhs;whnf
   have a5:=r.2 5 (by decide);conv at a5=>rhs;whnf
   simp only[Q7,yk]at D;clear o r;go_simp
   exact O _ _ BR rfl
  ·intro A x W r I J o _ K O;have bk:=gv r o 2 31;clear o r;have V:=qf MN.out I;have c0:W.cell? ⟨G,0,none⟩=some (.int .i64 1):=qd V 0;go_simp
   exact O _ _ BR rfl
  ·intro A x W r I J o _ K O;have aU:=gv r o 6 35;clear o r;have V:=qf MN.out I;have c0:W.cell? ⟨G,0,none⟩=some (.int .i64 1):=qd V 0;go_simp
   exact O _ _ BR rfl
  ·intro A x W r I J o _ K O;have a3:=r.2 3 (by decide);conv at a3=>rhs;whnf
   clear o r;have V:=qf M3.out I;refine wp_load_row 252 _ rfl b3 a3 _ _ _ _ V Tryz.underlying252 rfl (by rw[qg,Y.out.1];kernel_rfl) (O _ _ Br rfl)
  ·intro A x W r I J o _ K O;have bc:=gv r o 11 40;clear o r;have V:=qf MN.out I;have c0:W.cell? ⟨G,33,none⟩=some (.slice ma q.length mc):=qd V 33;go_simp
   exact O _ _ BR rfl
  ·intro A x W r I J o _ K O;have aZ:=gv r o 16 45;clear o r;have V:=qf MN.out I;have c0:W.cell? ⟨G,0,none⟩=some (.int .i64 1):=qd V 0;go_simp
   exact O _ _ BR rfl
  ·intro A x W r I J o _ K O;have bg:=gv r o 17 46;clear o r;go_simp
   refine(zn true _).mono ?_;rintro e w' ⟨rfl,hw⟩;exact O _ _ (by rw[hw];exact Below.refl _ _) rfl
  ·intro A x W r I J o _ K O;have aW:=gv r o 12 41;have aX:=gv r o 13 42;have bi:=gv r o 18 47;clear o r;go_simp
   refine(jL q _ s 128 W (aC.out W (am.out.trans (I.mono (by omega)))) (by decide) (by omega) aA).mono ?_;rintro e w' ⟨u,rfl,ho,U⟩;exact O _ _ U (ownsRow_le ho J)
  ·intro A x W r I J o _ K O;have be:=gv r o 24 53;clear o r;have V:=qf MN.out I;have c0:W.cell? ⟨G,13,none⟩=some (.bool la):=qd V 13;go_simp
   exact O _ _ BR rfl
  ·intro A x W r I J o _ K O;have aT:=gv r o 7 36;have aS:=gv r o 8 37;have aO:(fun u W=>W.ownsRow S.heap.size 5 1 u 128 ((QG 128 ((q.drop s).take 128)).map qo)) (x 48) W:=o ⟨19,.data⟩ (by simp) rfl _ rfl;have ba:A.tmps.getD 48 undef=x 48:=r.1 48 (by decide);have a7:=gv r o 20 49;have bf:=gv r o 21 50;have bb:=gv r o 25 54;clear o r;have aK:=yq (n:=128) (zs:=(q.drop s).take 128) (fun z hz=>aH.out z (List.mem_of_mem_drop (List.mem_of_mem_take hz)));go_simp
   refine(qbL ST (QG 128 ((q.drop s).take 128)) ah.out _ q.length (by omega) true la W (yf aO) aK (QO (List.length_take_le _ _))).mono ?_;rintro e w' ⟨rfl,U⟩;rw[aJ.out];exact O _ _ U rfl
  ·intro A x W r I J o _ K O;have a8:=gv r o 3 32;have aY:=gv r o 26 55;clear o r;go_simp
   refine(qaV true (qM R) (Qe (by decide) aG.out) _).mono ?_;rintro e w' ⟨u,rfl,ho,U⟩;exact O _ _ U (ownsRow_le ho J)
  ·intro A x W r I J o _ K O;have aN:(fun u W=>W.ownsRow S.heap.size 5 1 u 64 ((qQ 8 (qM R) 8).map qo)) (x 56) W:=o ⟨27,.data⟩ (by simp) rfl _ rfl;have aP:A.tmps.getD 56 undef=x 56:=r.1 56 (by decide);clear o r;go_simp
   exact O _ _ Br (aP▸aN)
 intro x W I J aB;obtain⟨ap,ar,e2, -⟩:=aB;change (fun u W=>W.ownsRow S.heap.size 5 1 u 128 ((QG 128 ((q.drop s).take 128)).map qo)) (x 48) W at ap
 change (fun u W=>W.ownsRow S.heap.size 5 1 u 64 ((qQ 8 (qM R) 8).map qo)) (x 56) W at ar
 change (fun u W=>W.ownsRow S.heap.size 5 1 u 64 ((qQ 8 (qM R) 8).map qo)) (x 2) W at e2
 refine qv ?_;simp only[QP,Act.put,Ls];have E2:=hid (ownsRow_le e2 (show w.heap.size≤S.heap.size by omega));have aI:=hid (am.out.trans (I.mono (by omega)));clear ap ar e2 I J;go_wp2
 go_ret
 exact⟨_,rfl,E2.out,by rw[Z];exact aI.out⟩
theorem qdE (v:Nat→Nat)(z1 z2 q:List Int)(sa pe kv mv:Value)(la:Bool)(aa:Int)(G:Nat)(w:World)(hN:Yv false w G v sa pe kv la mv aa)(hP:ParOk false v)(h1:Hold w sa z1)(h2:Hold w pe z2)(au:z1.length≤8)(ay:z2.length≤8)(hM:Hold w mv q)(aA:(q.length:Int)≤281474976710656):
  Calls Tryz.prog 156 #[.pointer (some ⟨G,0,none⟩)] w fun e w'=> ∃u,e= .returned u∧w'.ownsRow w.heap.size 5 1 u 32 ((zU false (h0Z false (QT false v z1 z2)) q la).map qo)∧Below w.heap.size w w':=by
 obtain⟨b0,Z⟩:=Ex w.heap.size;have ai:=qbe v z1 z2 q sa pe kv mv la aa G w hN hP h1 h2 au ay hM aA;obtain⟨ma,mc,rfl,aD,aE⟩:=hM.slice;have aL:G<b0:=by rw[←Z];exact(Ai hN).1
 have av:=fun(W:World) (U:Below b0 w W)=>hM.below (Z▸U)
 have aj:=Q0 false (QT false v z1 z2);generalize h0Z false (QT false v z1 z2)=H0 at*;have ab:=Yk false aj q (nbk 64 q.length);have ae:=Yw (n:=64) (by decide) q.length;have ag:zU false H0 q la=qQ 4 (yJ false (stZ false H0 q (nbk 64 q.length)) (QG 64 ((q.drop (64*nbk 64 q.length)).take 64)) (q.length:Int) true la) 8:=rfl;rw[ag];obtain⟨ST,ao⟩:=Ex (stZ false H0 q (nbk 64 q.length));obtain⟨s,hs⟩:=Ex (64*nbk 64 q.length);rw[ao,hs]at ai⊢;rw[ao]at ab;rw[hs]at ae;obtain⟨R,hR⟩:=Ex (yJ false ST (QG 64 ((q.drop s).take 64)) (q.length:Int) true la);have ad:Words 32 8 R:=by rw[←hR];exact QX false ab _ _ _ _
 rw[hR];have ax:qQ 4 R 8=qQ 4 (qM R) 8:=ZP 4 8 (fun j hj=>(qbl ad.1 hj).symm);rw[ax];have bd:s≤q.length:=ae.1;have az:w.heap[G]? =some (.cells (rN 2 v sa pe kv la (.slice ma q.length mc) aa) 254 (0,0)):=hN;have aw:=hM.1;have ak:=hid ai;have aC:=hid av;have ah:=hid ab;have aJ:=hid hR;have aG:=hid ad;have aF:=hid az;have aH:=hid aw;clear ag ax ao hs ae hR ad ai av ab hN az aw aj hP h1 h2 hM aD aE au ay;go_enter Tryz.func156,Tryz.ntmps156
 go_wp2_with fail
 refine ak.out.mono ?_;rintro e w2 ⟨rfl,an⟩;have Y:=hid (Qe (by decide) ah.out);have af:=an.size;have aq:=hid an;clear an;go_upto_region 2 with((with_reducible show wpList _ _ _ (Oper.mk none (Op.store 252 _ _) _ _ _ _::_) _ _);refine wpList_store_row rfl 252 _ _ rfl w2.heap.size (qj .u64 (qM ST)) rfl rfl 252 _ (Wn _ _) (by rw[qg,Y.out.1];kernel_rfl) (by rw[qg,Y.out.1];rfl) qy ?_)
 refine qm ?_;intro S I;obtain⟨b3,ac⟩:=Ex w2.heap.size;have m3:S.heap[b3]? =some (.cells (qj .u64 (qM ST)) 252 (0,0)):=by rw[I,←ac];exact setRow_heap _ _ _ _ _ _ (Wn _ _)
 have X:Below b0 w S:=by rw[I,←Z];exact below_setRow (aq.out.alloc af _) af _
 have mn:S.heap[G]? =some (.cells (rN 2 v sa pe kv la (.slice ma q.length mc) aa) 254 (0,0)):=(X.block G aL).trans aF.out;rw[ac];have aQ:b0≤b3:=by omega
 have aR:b3<S.heap.size:=(Ai m3).1;have bh:G<S.heap.size:=by omega
 have bj:S.cell? ⟨G,33,none⟩=some (.slice ma q.length mc):=qd mn 33;have M3:=hid m3;have MN:=hid mn;have am:=hid X;clear I ac m3 mn X aq af ak;have aV:(s:Int)≤q.length:=by omega
 have al:((q.length:Int) - s)=((q.length - s:Nat):Int):=by omega
 have aM:IntKind.u64.wrap ((q.length:Int) - s)=((q.length - s:Nat):Int):=by rw[al];exact u64_wrap_id _ (by omega) (by omega)
 have a9:=hid al;clear al;go_wp2_with fail
 refine(jM s (q.length - s) (by omega) _).mono ?_;rintro e w4 ⟨rfl,hw⟩;rw[hw];clear hw;rw[show s+(q.length - s)=q.length by omega];clear aM;go_upto_region 3 with(fail)
 refine qI (n:=29) (w0:=S) (B:=S.heap.size) [.z 29 G 0,.z 30 G 0,.z 31 G 0,.v 32 (.int .i64 2),.z 33 G 0,.z 34 G 0,.z 35 G 0,.v 36 (.int .i64 2),.v 37 (.agg (qj .u64 (qM ST))),.z 38 G 0,.z 39 G 0,.z 40 G 33,.v 41 (.slice ma q.length mc),.v 42 (.int .i64 s),.z 43 G 0,.z 44 G 0,.z 45 G 0,.v 46 (.int .i64 2),.v 47 (.int .i64 64),.p 48 (fun u W=>W.ownsRow S.heap.size 5 1 u 64 ((QG 64 ((q.drop s).take 64)).map qo)),.v 49 (.int .u64 (q.length:Nat)),.v 50 (.int .u64 0),.z 51 G 0,.z 52 G 0,.z 53 G 13,.v 54 (.bool la),.v 55 (.agg (qj .u64 (qM R))),.p 56 (fun u W=>W.ownsRow S.heap.size 5 1 u 32 ((qQ 4 (qM R) 8).map qo)),.p 2 (fun u W=>W.ownsRow S.heap.size 5 1 u 32 ((qQ 4 (qM R) 8).map qo))] (by exact⟨(fun _ _ _ h U=>qi h (fun g _ hg=>U.block g hg)),(fun _ _ _ h U=>qi h (fun g _ hg=>U.block g hg)),(fun _ _ _ h U=>qi h (fun g _ hg=>U.block g hg)),trivial⟩) Br.drew Nl ?_ ?_
 ·repeat' (with_reducible first|exact qB|refine qw ?_ ?_)
  all_goals try
   intro A x W r I J o D K O;have a0:=r.2 0 (by decide);conv at a0=>rhs;whnf
   have a6:=r.2 6 (by decide);conv at a6=>rhs;whnf
   have a4:=r.2 4 (by decide);conv at a4=>rhs;whnf
   have a5:=r.2 5 (by decide);conv at a5=>rhs;whnf
   simp only[Q7,yk]at D;clear o r;go_simp
   exact O _ _ BR rfl
  ·intro A x W r I J o _ K O;have bk:=gv r o 2 31;clear o r;have V:=qf MN.out I;have c0:W.cell? ⟨G,0,none⟩=some (.int .i64 2):=qd V 0;go_simp
   exact O _ _ BR rfl
  ·intro A x W r I J o _ K O;have aU:=gv r o 6 35;clear o r;have V:=qf MN.out I;have c0:W.cell? ⟨G,0,none⟩=some (.int .i64 2):=qd V 0;go_simp
   exact O _ _ BR rfl
  ·intro A x W r I J o _ K O;have a3:=r.2 3 (by decide);conv at a3=>rhs;whnf
   clear o r;have V:=qf M3.out I;refine wp_load_row 252 _ rfl b3 a3 _ _ _ _ V Tryz.underlying252 rfl (by rw[qg,Y.out.1];kernel_rfl) (O _ _ Br rfl)
  ·intro A x W r I J o _ K O;have bc:=gv r o 11 40;clear o r;have V:=qf MN.out I;have c0:W.cell? ⟨G,33,none⟩=some (.slice ma q.length mc):=qd V 33;go_simp
   exact O _ _ BR rfl
  ·intro A x W r I J o _ K O;have aZ:=gv r o 16 45;clear o r;have V:=qf MN.out I;have c0:W.cell? ⟨G,0,none⟩=some (.int .i64 2):=qd V 0;go_simp
   exact O _ _ BR rfl
  ·intro A x W r I J o _ K O;have bg:=gv r o 17 46;clear o r;go_simp
   refine(zn false _).mono ?_;rintro e w' ⟨rfl,hw⟩;exact O _ _ (by rw[hw];exact Below.refl _ _) rfl
  ·intro A x W r I J o _ K O;have aW:=gv r o 12 41;have aX:=gv r o 13 42;have bi:=gv r o 18 47;clear o r;go_simp
   refine(jL q _ s 64 W (aC.out W (am.out.trans (I.mono (by omega)))) (by decide) (by omega) aA).mono ?_;rintro e w' ⟨u,rfl,ho,U⟩;exact O _ _ U (ownsRow_le ho J)
  ·intro A x W r I J o _ K O;have be:=gv r o 24 53;clear o r;have V:=qf MN.out I;have c0:W.cell? ⟨G,13,none⟩=some (.bool la):=qd V 13;go_simp
   exact O _ _ BR rfl
  ·intro A x W r I J o _ K O;have aT:=gv r o 7 36;have aS:=gv r o 8 37;have aO:(fun u W=>W.ownsRow S.heap.size 5 1 u 64 ((QG 64 ((q.drop s).take 64)).map qo)) (x 48) W:=o ⟨19,.data⟩ (by simp) rfl _ rfl;have ba:A.tmps.getD 48 undef=x 48:=r.1 48 (by decide);have a7:=gv r o 20 49;have bf:=gv r o 21 50;have bb:=gv r o 25 54;clear o r;have aK:=yq (n:=64) (zs:=(q.drop s).take 64) (fun z hz=>aH.out z (List.mem_of_mem_drop (List.mem_of_mem_take hz)));go_simp
   refine(qaT ST (QG 64 ((q.drop s).take 64)) ah.out _ q.length (by omega) true la W (yf aO) aK (QO (List.length_take_le _ _))).mono ?_;rintro e w' ⟨rfl,U⟩;rw[aJ.out];exact O _ _ U rfl
  ·intro A x W r I J o _ K O;have a8:=gv r o 3 32;have aY:=gv r o 26 55;clear o r;go_simp
   refine(qaV false (qM R) (Qe (by decide) aG.out) _).mono ?_;rintro e w' ⟨u,rfl,ho,U⟩;exact O _ _ U (ownsRow_le ho J)
  ·intro A x W r I J o _ K O;have aN:(fun u W=>W.ownsRow S.heap.size 5 1 u 32 ((qQ 4 (qM R) 8).map qo)) (x 56) W:=o ⟨27,.data⟩ (by simp) rfl _ rfl;have aP:A.tmps.getD 56 undef=x 56:=r.1 56 (by decide);clear o r;go_simp
   exact O _ _ Br (aP▸aN)
 intro x W I J aB;obtain⟨ap,ar,e2, -⟩:=aB;change (fun u W=>W.ownsRow S.heap.size 5 1 u 64 ((QG 64 ((q.drop s).take 64)).map qo)) (x 48) W at ap
 change (fun u W=>W.ownsRow S.heap.size 5 1 u 32 ((qQ 4 (qM R) 8).map qo)) (x 56) W at ar
 change (fun u W=>W.ownsRow S.heap.size 5 1 u 32 ((qQ 4 (qM R) 8).map qo)) (x 2) W at e2
 refine qv ?_;simp only[QP,Act.put,Ls];have E2:=hid (ownsRow_le e2 (show w.heap.size≤S.heap.size by omega));have aI:=hid (am.out.trans (I.mono (by omega)));clear ap ar e2 I J;go_wp2
 go_ret
 exact⟨_,rfl,E2.out,by rw[Z];exact aI.out⟩
theorem qh5 (big:Bool)(zs:List Int):(Y3 big zs).length≤sB big:=by
 unfold Y3 Ys;simp only[List.length_take];omega
theorem qis (big:Bool)(zs:List Int):(zp big zs).length≤sB big:=by
 unfold zp Ys;simp only[List.length_take];omega
theorem qds {big:Bool}{zs:List Int}(o: ∀z∈zs,0≤z∧z≤255): ∀z∈Y3 big zs,0≤z∧z≤255:=fun z h=>o z (List.mem_of_mem_drop (List.mem_of_mem_take (List.mem_of_mem_take h)))
theorem qdI {big:Bool}{zs:List Int}(o: ∀z∈zs,0≤z∧z≤255): ∀z∈zp big zs,0≤z∧z≤255:=fun z h=>o z (List.mem_of_mem_drop (List.mem_of_mem_take (List.mem_of_mem_take h)))
theorem qhp {big:Bool}{zs:List Int}(I: ∀z∈zs,0≤z∧z≤255)(h:okD big false zs):ParOk big (YL big false zs):=by
 obtain⟨D,hm,hx,k1,k2,k4,k9⟩:=h;have H:=fun f o q=>qY (big:=big) (ext:=false) I D (f:=f) o q
 have G: ∀f,1≤f→f≤9→((YL big false zs f:Nat):Int)≤yi big false zs f:=fun f o q=>by
  have:=H f o q
  unfold YL;split<;>omega
 have e:=fun f o q J=>J2 (big:=big) (ext:=false) I D (f:=f) o q J
 have Y:=e 1 (by omega) (by omega) (by omega);have V:=e 2 (by omega) (by omega) (by omega);have e4:=e 4 (by omega) (by omega) (by omega);have U:=e 9 (by omega) (by omega) (by omega);have X:qO zs (atB big 1) (szE big false 1)=qp zs 0:=by cases big<;>simp[szE,szB,atB,zF]
 have S:qO zs (atB big 2) (szE big false 2)=qp zs 1:=by cases big<;>simp[szE,szB,atB,zF]
 have s4:qO zs (atB big 4) (szE big false 4)=qp zs 3:=by cases big<;>simp[szE,szB,atB,zF]
 have Z:qO zs (atB big 9) (szE big false 9)=qp zs (atB big 9):=by cases big<;>simp[szE,szB,atB,zF]
 have B: ∀f n,1≤f→f≤9→szE big false f≤n→((YL big false zs f:Nat):Int)<2^(8*n):=fun f n O r hs=>by
  have o:=(H f O r).2;have q:=G f O r;have J:(2:Int)^(8*szE big false f)≤2^(8*n):=by exact_mod_cast Nat.pow_le_pow_right (by decide:0<2) (Nat.mul_le_mul_left 8 hs)
  omega
 refine⟨⟨?_,?_,⟨by omega,?_⟩,⟨?_,?_⟩,⟨by omega,fun hb=>?_⟩,⟨by omega,?_⟩,?_⟩,?_,?_,rfl⟩
 ·rw[Y,X];exact k1
 ·rw[V,S];exact k2
 ·have:=B 3 1 (by omega) (by omega) (by cases big<;>decide);omega
 ·rw[e4,s4];exact k4 rfl
 ·have:=B 4 1 (by omega) (by omega) (by cases big<;>decide);omega
 ·have:=B 6 6 (by omega) (by omega) (by subst hb;decide);omega
 ·have:=B 8 1 (by omega) (by omega) (by cases big<;>decide);omega
 ·rw[U,Z];exact k9
 ·have:=B 5 4 (by omega) (by omega) (by cases big<;>decide);omega
 ·have:=B 6 8 (by omega) (by omega) (by cases big<;>decide);omega
theorem qfP (big:Bool)(v:Nat→Nat)(z1 z2 o:List Int)(G r U I:Value)(la:Bool)(q:Int)(D:Nat)(w:World)(Z:Yv big w D v G r U la I q)(X:ParOk big v)(V:Hold w G z1)(Y:Hold w r z2)(J:z1.length≤sB big)(S:z2.length≤sB big)(hM:Hold w I o)(O:(o.length:Int)≤281474976710656):
  Calls Tryz.prog 156 #[.pointer (some ⟨D,0,none⟩)] w fun e w'=> ∃u,e= .returned u∧w'.ownsRow w.heap.size 5 1 u (mB big) ((zU big (h0Z big (QT big v z1 z2)) o la).map qo)∧Below w.heap.size w w':=by
 cases big
 ·exact qdE v z1 z2 o G r U I la q D w Z X V Y J S hM O
 ·exact qew v z1 z2 o G r U I la q D w Z X V Y J S hM O
def qi9 (big:Bool)(v:Nat→Nat)(z1 z2 kz:List Int)(la:Bool)(o:Int)(ds:List Int)(w:World)(e:Ending)(w':World):Prop:=
 (∃u,e= .returned (.tuple #[u,.int .i64 0])∧Fresh w.heap.size w' u ((zU big (h0Z big (QT big v z1 z2)) (yz (bB big) kz++ds) la).take o.toNat))∧Below w.heap.size w w'
theorem qgh {base g c m:Nat}{W:World}{zs:List Int}(h:W.ownsRow base 5 1 (.slice (some ⟨g,0,none⟩) zs.length c) zs.length (zs.map qo))(q:m≤zs.length):Fresh base W (.slice (some ⟨g,0,none⟩) m c) (zs.take m):=by
 obtain⟨o,G,I,r,D,O,J⟩:=zb h;have e:(zs.take m).length=m:=by simp[List.length_take,Nat.min_eq_left q]
 refine .inr ⟨g,c,o,by rw[e],D,G,by omega,by omega,by omega,?_⟩;rw[e,List.map_take,←r,List.take_take,Nat.min_eq_left q]
theorem qiY (big:Bool):mB big≤bB big∧bB big≤128:=by cases big<;>decide
theorem qfQ (big:Bool)(v:Nat→Nat)(z1 z2 kz ds:List Int)(la:Bool)(o:Int)(sa pe Z dv:Value)(w:World)(hP:ParOk big v)(h1:Hold w sa z1)(h2:Hold w pe z2)(au:z1.length≤sB big)(aG:z2.length≤sB big)(hK:Hold w Z kz)(av:kz.length≤mB big)(hk:kz.length=0∨kz.length=v 2)(hD:Hold w dv ds)(ay:(ds.length:Int)≤140737488355200)(ah: ¬(o<1∨(mB big:Nat)<o)):
  Calls Tryz.prog 121 #[.int .i64 (kB big),parN v sa pe,Z,.bool la,.int .i64 o,dv] w fun e w'=>qi9 big v z1 z2 kz la o ds w e w':=by
 obtain⟨J,D⟩:=Ex w.heap.size;obtain⟨a1,c1,rfl,aN,aK⟩:=h1.slice;obtain⟨a2,c2,rfl,aJ,aO⟩:=h2.slice;have ae:Below J w (w.alloc (.cells #[.int .i64 (v 1),.int .i64 (v 2),.int .i64 (v 3),.int .i64 (v 4),.int .u32 (v 5),.int .u64 (v 6),.int .u32 (v 7),.int .i64 (v 8),.int .i64 (v 9),.slice a1 z1.length c1,.slice a2 z2.length c2] 171)):=by rw[←D];exact Br.alloc Nl _
 have V:=Wn w (.cells #[.int .i64 (v 1),.int .i64 (v 2),.int .i64 (v 3),.int .i64 (v 4),.int .u32 (v 5),.int .u64 (v 6),.int .u32 (v 7),.int .i64 (v 8),.int .i64 (v 9),.slice a1 z1.length c1,.slice a2 z2.length c2] 171);rw[D]at V;have aM:=(Ai V).1;have ar:=hid hP;have aX:=hid h1;have aQ:=hid h2;have aw:=hid hK;have X:=hid hD;have ab:=hid av;have aI:=hid hk;have ag:=hid ay;have ai:=hid au;have aa:=hid aG;clear hP h1 h2 au aG hK av hk hD ay aN aK aJ aO;unfold parN parV;go_enter Tryz.func121,Tryz.ntmps121
 go_upto_region 1 with(fail)
 generalize w.alloc (.cells #[.int .i64 (v 1),.int .i64 (v 2),.int .i64 (v 3),.int .i64 (v 4),.int .u32 (v 5),.int .u64 (v 6),.int .u32 (v 7),.int .i64 (v 8),.int .i64 (v 9),.slice a1 z1.length c1,.slice a2 z2.length c2] 171)=wA at*;go_wp2_with ((with_reducible show wpList _ _ _ (Oper.mk _ (Op.load 171 _) _ _ _ _::_) _ _);refine wpList_load_row rfl 171 _ rfl J rfl _ _ _ _ V Tryz.underlying171 rfl (by kernel_rfl) ?_)
 refine(qhh big v a1 a2 z1.length z2.length c1 c2 kz Z wA ar.out ai.out aa.out (aw.out.below (D▸ae)) ab.out aI.out).mono ?_;rintro e w1 ⟨q,mv,rfl,aV,hN,hO,af⟩;have aW:=af.size;have aE:Below J w w1:=ae.trans (af.mono (by omega));have ba:q<w1.heap.size:=(Ai hN).1;have aH: ∀g,mv.ownBlock=some g→J<g:=fun g hg=>by have:=qbQ hO hg;omega
 have aq:=jO hO;have HN:=hid hN;have ap:=hid aq;have ax:=hid aE;have az:=hid aH;have bb:J<q:=by omega
 clear hN hO af aE aH aq V ae aM aW aV wA;have ad:=hid ah;have a6:decide (o<1)=false:=decide_eq_false (by omega);have a8:decide ((mB big:Int)<o)=false:=decide_eq_false (by omega);clear ah;have aR:w1.cell? ⟨q,13,none⟩=some (.bool false):=qd HN.out 13;have a3:=frozen_of_row w1 q 13 _ _ HN.out;go_wp2_with fail
 refine(qbN big _).mono ?_;rintro r Y ⟨rfl,hw⟩;obtain rfl:=hw;go_upto_region 7 with(fail)
 have S:But q Y (Y.setCell ⟨q,13,none⟩ (.bool la)):=(But.refl q Y).set 13 _;have aD:=hid (show Yv big (Y.setCell ⟨q,13,none⟩ (.bool la)) q v (.slice a1 z1.length c1) (.slice a2 z2.length c2) Z la mv 0 from qfT HN.out);have aB:=hid (Yy ap.out S HN.out (by decide));have U:=hid (show Below J w (Y.setCell ⟨q,13,none⟩ (.bool la)) from ax.out.trans (S.below (by omega) (by omega)));obtain⟨m,hm⟩: ∃m:Nat,o=(m:Int):=⟨o.toNat,by have:=ad.out;omega⟩;subst hm;have I:m≤mB big:=by have:=ad.out;omega
 have a5:=hid I;clear HN ap ax S aR a3 a6 a8 I;generalize (Y.setCell ⟨q,13,none⟩ (.bool la))=W4 at*;go_wp2_with fail
 have a4:=zr (n:=bB big) (key:=kz) (by have:=qiY big;have:=ab.out;omega);have ac:((yz (bB big) kz++ds).length:Int)≤281474976710656:=by have:=qiY big;have:=ag.out;rw[List.length_append];omega
 have an: ∀z∈yz (bB big) kz++ds,0≤z∧z≤255:=fun z hz=>by
  rcases List.mem_append.1 hz with hz|hz
  ·exact zt aw.out.1 z hz
  ·exact X.out.1 z hz
 have aL:=hid ac;have aZ:=hid an;refine(qdz big v (yz (bB big) kz) ds (.slice a1 z1.length c1) (.slice a2 z2.length c2) Z mv dv la 0 q W4 aD.out aB.out (X.out.below (D▸U.out)) (fun al b hb=>⟨fun e=>by have:=YT X.out al hb;omega,fun e=>by have:=YT X.out al hb;have:=az.out b e;omega⟩) (by have:=qiY big;have:=ag.out;omega)).mono ?_;rintro e w5 ⟨rfl,⟨a7,aP,aF,am⟩,aC⟩;clear a4 ac an;have O:=hid (show Below J w w5 from U.out.trans (aC.below (by have:=U.out.size;omega) (fun k hk=>⟨by omega,fun e=>by have:=az.out k e;omega⟩)));have aY:=hid aF;have aU:=hid am;clear aF am aC aD aB U;go_wp2_with fail
 refine(qfP big v z1 z2 (yz (bB big) kz++ds) (.slice a1 z1.length c1) (.slice a2 z2.length c2) Z a7 la aP q w5 aY.out ar.out (aX.out.below (D▸O.out)) (aQ.out.below (D▸O.out)) ai.out aa.out (Qi aU.out aZ.out) aL.out).mono ?_;rintro e w6 ⟨u,rfl,G,ak⟩;have aT:=hid (show Below J w w6 from O.out.trans (ak.mono (by have:=O.out.size;omega)));have ao:w.heap.size≤w5.heap.size:=O.out.size;obtain⟨u1,u2,u3,rfl⟩:=qs G;obtain rfl:u2=mB big:=yM G;obtain⟨gg,rfl⟩:=jq (jO G) (by cases big<;>decide);obtain⟨cu, -, -, -, -,be,a9⟩:=zb G;have aj:(zU big (h0Z big (QT big v z1 z2)) (yz (bB big) kz++ds) la).length=mB big:=by have:=G.1;simpa using this
 have bd:(u3:Int)≤9223372036854775807:=by unfold maxLen at a9;omega
 have I:=a5.out;have bc:(m:Int)≤u3:=by omega
 have bf:(mB big:Int)≤(u3:Int):=by omega
 have aA:=(qgh (m:=m) (zs:=zU big (h0Z big (QT big v z1 z2)) (yz (bB big) kz++ds) la) (c:=u3) (by rw[aj];exact G) (by rw[aj];exact I)).le ao;have aS:=hid aA;clear aA G ak aj ao I;go_wp2_with fail
 go_ret2
 exact⟨⟨_,rfl,aS.out⟩,by rw[D];exact aT.out⟩
theorem qfa {big ext:Bool}{zs:List Int}(o: ∀z∈zs,0≤z∧z≤255)(q:zs.length=mB big):((YL big ext zs 2:Nat):Int)=qp zs 1:=by
 rw[J2 (big:=big) (ext:=ext) o q (f:=2) (by omega) (by omega) (by omega)]
 cases big<;>cases ext<;>simp[szE,szB,atB,zF]
theorem qjC {big ext:Bool}{o kz:List Int}(r: ∀z∈o,0≤z∧z≤255)(D:o.length=mB big)(q:YC o kz=false):kz.length=0∨kz.length=YL big ext o 2:=by
 have G:=qfa (ext:=ext) r D;unfold YC at q;have I:=of_decide_eq_false q;omega
theorem qfd {big:Bool}{q kz ds:List Int}{la:Bool}{o:Int}{w w0:World}{e:Ending}{w':World}(I: ∀z∈q,0≤z∧z≤255)(D:okD big false q)(r:Below w0.heap.size w0 w)(h:qi9 big (YL big false q) (Y3 big q) (zp big q) kz la o ds w e w'):
  ∃u,e= .returned (.tuple #[u,.int .i64 0])∧qck big q kz la o ds w0 (.returned (.tuple #[u,.int .i64 0])) w':=by
 obtain⟨⟨u,rfl,h⟩,G⟩:=h;rw[qiX I D]at h;exact⟨u,rfl,⟨u,rfl,h.le r.size⟩,r.trans (G.mono r.size)⟩
theorem qfR (big:Bool)(r kz ds:List Int)(la:Bool)(o:Int)(J kv I:Value)(w:World)(hB:Hold w J r)(hK:Hold w kv kz)(hD:Hold w I ds)(ap:(ds.length:Int)≤140737488355200)(au:okD big false r)(ab:YC r kz=false)(ho: ¬(o<1∨(mB big:Nat)<o)):
  Calls Tryz.prog 85 #[.agg (yX (kB big) J kv la o I)] w fun e w'=>qck big r kz la o ds w e w':=by
 obtain⟨D,O⟩:=Ex w.heap.size;obtain⟨U,V,rfl,aE,aD⟩:=hK.slice;have Y:Below D w (w.alloc (.cells #[.int .i64 (kB big),J,.slice U kz.length V,.bool la,.int .i64 o,I] 73)):=by rw[←O];exact Br.alloc Nl _
 have G:=Wn w (.cells #[.int .i64 (kB big),J,.slice U kz.length V,.bool la,.int .i64 o,I] 73);rw[O]at G;have ad:=(Ai G).1;have hq:((kB big != 1)&&(kB big != 2))=false:=by cases big<;>rfl
 obtain⟨q0,ax⟩: ∃q,(kB big != 1)=q:=⟨_,rfl⟩;obtain⟨q1,az⟩: ∃q,(kB big != 2)=q:=⟨_,rfl⟩;rw[ax,az]at hq;obtain⟨kk,ac⟩:=Ex (kB big);have al:=hid ac;have af:=hid hB;have aJ:=hid hK;have aK:=hid hD;have aC:=hid ap;have HO:=hid au;have ae:=hid ab;have aG:=hid ho;clear hB hK hD ap aE aD au ab ho;show Calls _ _ #[.agg #[.int .i64 (kB big),J,.slice U kz.length V,.bool la,.int .i64 o,I]] _ _
 rw[ac]at Y G ad ax az⊢;clear ac;go_enter Tryz.func85,Tryz.ntmps85
 go_upto_region 1 with(fail)
 generalize w.alloc (.cells #[.int .i64 kk,J,.slice U kz.length V,.bool la,.int .i64 o,I] 73)=wA at*;have c0:wA.cell? ⟨D,0,none⟩=some (.int .i64 kk):=qd G 0;have c1:wA.cell? ⟨D,1,none⟩=some J:=qd G 1
 cases q0<;>cases q1<;>first|(exfalso;cases hq;done)|skip
 all_goals
  clear hq;go_wp2_with fail
  refine(show Calls Tryz.prog 120 #[.int .i64 kk,J] wA _ from al.out▸qcy big r J wA (af.out.below (O▸Y)) HO.out).mono ?_;rintro e w1 ⟨⟨cs,rfl,aj⟩,Z⟩;have aH:=Z.size;have aq:=qf G Z;have av:Below D w w1:=Y.trans (Z.mono (by omega));have X:=hid aj;have ao:=hid av;have aw:=hid aq;clear aj av aq Z Y c0 c1 G;go_upto_region 7 with((with_reducible show wpList _ _ _ (Oper.mk none (Op.store 171 (Operand.tmp 5) _) _ _ _ _::_) _ _);refine wpList_store_row rfl 171 _ _ rfl w1.heap.size cs rfl rfl 171 _ (Wn _ _) (by rw[X.out.1];kernel_rfl) (by rw[X.out.1];rfl) X.out.2.1 ?_)
  refine qm ?_;intro W hW;obtain⟨p5,ag⟩:=Ex w1.heap.size;have r5:W.heap[p5]? =some (.cells cs 171 (0,0)):=by rw[hW,←ag];exact setRow_heap _ _ _ _ _ _ (Wn _ _)
  have r0:W.heap[D]? =some (.cells #[.int .i64 kk,J,.slice U kz.length V,.bool la,.int .i64 o,I] 73 (0,0)):=by rw[hW];exact(setRow_other (w1.alloc _) _ _ _ (by omega)).trans ((Bh _ _ _ (by omega)).trans aw.out)
  have ar:Below D w W:=by rw[hW];exact below_setRow (ao.out.alloc (by omega) _) (by omega) _
  have aA:DecIs big r D W cs:=X.out.mono (by omega) (fun g hg aM=>by rw[hW];exact(setRow_other (w1.alloc _) _ _ _ (by omega)).trans (Bh _ _ _ aM));rw[ag];have aP:D<p5:=by omega
  have aQ:p5<W.heap.size:=(Ai r5).1;clear hW ag aw ao X aH ad;have R5:=hid r5;have R0:=hid r0;have aa:=hid ar;have ak:=hid aA;clear r5 r0 ar aA;obtain⟨-, -,sa,pe,S,ay,ah⟩:=ak.out;clear ak;obtain⟨v,hv⟩:=Ex (YL big false r);rw[hv]at S;unfold parN parV at S;injection S with S
  subst S;have hz:=af.out.1;have aF:=hid (Qi ay (qds hz));have aL:=hid (Qi ah (qdI hz));have HV:=hid hv;clear ay ah hv;have c5:W.cell? ⟨p5,1,none⟩=some (.int .i64 (v 2)):=qd R5.out 1;have c2:W.cell? ⟨D,2,none⟩=some (.slice U kz.length V):=qd R0.out 2;have aO:D<W.heap.size:=(Ai R0.out).1;have ai:((v 2:Nat):Int)=qp r 1:=by rw[←HV.out];exact qfa hz HO.out.1
  obtain⟨q2,aI⟩: ∃q,((kz.length:Int) != 0)=q:=⟨_,rfl⟩;obtain⟨q3,aN⟩: ∃q,((kz.length:Int) != (v 2:Nat))=q:=⟨_,rfl⟩;have an:YC r kz=(q2&&q3):=by rw[←aI,←aN,ai];exact qat r kz
  have aB:=hid an;clear hz ai an;have am:(q2&&q3)=false:=by rw[←aB.out];exact ae.out
  clear aB;have c3:W.cell? ⟨D,3,none⟩=some (.bool la):=qd R0.out 3;have c4:W.cell? ⟨D,4,none⟩=some (.int .i64 o):=qd R0.out 4;have c6:W.cell? ⟨D,5,none⟩=some I:=qd R0.out 5
  cases q2<;>cases q3<;>first|(exfalso;cases am;done)|skip
  all_goals
   clear am;go_wp2_with ((with_reducible show wpList _ _ _ (Oper.mk _ (Op.load 171 _) _ _ _ _::_) _ _);refine wpList_load_row rfl 171 _ rfl p5 rfl _ _ _ _ R5.out Tryz.underlying171 rfl (by kernel_rfl) ?_)
   have HZ:=af.out.1;refine(show Calls Tryz.prog 121 #[.int .i64 kk,parN v sa pe,.slice U kz.length V,.bool la,.int .i64 o,I] W _ from al.out▸qfQ big v (Y3 big r) (zp big r) kz ds la o sa pe (.slice U kz.length V) I W (HV.out▸qhp HZ HO.out) aF.out aL.out (qh5 big r) (qis big r) (aJ.out.below (O▸aa.out)) (qdT HO.out ae.out) (HV.out▸qjC HZ HO.out.1 ae.out) (aK.out.below (O▸aa.out)) aC.out aG.out).mono ?_;intro e w9 hh;obtain⟨u,rfl,hc⟩:=qfd (w0:=w) HZ HO.out (O▸aa.out) (HV.out▸hh);have HC:=hid hc;clear hh hc HZ;go_wp2_with fail
   go_ret2
   exact HC.out
end Go.Proofs.YthjoojnlnlmljaaGreat
