/- Lemmas. No condition. -/
import Derived.Test.YtahenngmaoellaaGreatO33
set_option linter.all false
set_option maxRecDepth 100000
set_option maxHeartbeats 0
namespace Go.Proofs.YtahenngmaoellaaGreat
open Go.ChangeShapes Go.WideShapes Go.ChangeAt Go.RowKit Go.Joins Go.Shelf Go.Maps
open Go.Lib (hid)
variable{big la ext:Bool}{W:World}{o n:Nat}{v:Nat->Nat}{G r D I:Value}{q:Int}{zs kz:List Int}
attribute [local go_sem] Oper.semAt_some
theorem qdc {x:Value}(h:YD big W o v G r D la I q):YD big (W.setCell ⟨o,33,none⟩ x) o v G r D la x q:=heap_setCell_same W o 33 _ _ x h
theorem qhF {q:Value}{I x:Int}(h:YD big W o v G q r la D I):YD big (W.setCell ⟨o,34,none⟩ (.int .u64 x)) o v G q r la D x:=heap_setCell_same W o 34 _ _ _ h
theorem qgg {b:Bool}(h:YD big W o v I r D la G q):YD big (W.setCell ⟨o,13,none⟩ (.bool b)) o v I r D b G q:=heap_setCell_same W o 13 _ _ _ h
theorem qkq {b:Nat}{v:Value}{xs:List Value}(h:W.ownsRow 0 5 1 v n xs)(o:v.ownBlock=some b):b<W.heap.size:=by
 rcases h.2 with⟨rfl, -⟩|⟨g,D,r,rfl,G,q, -⟩
 ·cases o
 ·simp only[Value.ownBlock,Option.some.injEq]at o;subst o;exact(Ai q).1
theorem qdO (big:Bool)(v:Nat->Nat)(o G:List Int)(sa pe kv mv bv:Value)(la:Bool)(O:Int)(r:Nat)(w:World)(hN:YD big w r v sa pe kv la mv O)(hO:w.ownsRow 0 5 1 mv o.length (o.map qp))(hH:Hold w bv G)(hF:G≠[]-> ∀b,bv.ownBlock=some b->Zj r mv b)(bd:(o.length:Int)+G.length<=140737488355328):
  Calls Tryz.prog 161 #[.pointer (some ⟨r,0,none⟩),bv] w fun e w'=>e= .returned (.tuple #[])/\(∃aa aD,YD big w' r v sa pe kv la aa aD/\w'.ownsRow 0 5 1 aa (o++G).length ((o++G).map qp))/\Spare (Zj r mv) w w':=by
 obtain⟨i0,hi,a7,a6,aR⟩:=info_parts Qu;have bp:r<w.heap.size:=(Ai hN).1;obtain⟨ba,bc,rfl,aH,a8⟩:=hH.slice;obtain⟨S,hS⟩:=Ex (Zj r mv);rw[hS];have aS:=hid hN;have aJ:=hid hO;have aw:=hid hH;have az:=hid hF;have ae:=hid hS;clear hN hO hH hF hS aH;have bk:(G.length:Int)<=140737488355328:=by omega
 go_enter Tryz.func161,Tryz.ntmps161
 go_wp2_with fail
 go_loopw [4] (fun i wr=> ∃j:Nat,i= .int .i64 j/\j<=G.length/\(∃aa,YD big wr r v sa pe kv la aa O/\wr.ownsRow 0 5 1 aa (o.length+j) ((o++G.take j).map qp)/\(aa.ownBlock=mv.ownBlock\/ ∀g,aa.ownBlock=some g->w.heap.size<=g))/\Spare S w wr) (fun i _=>G.length - (intOf i).toNat)
 case atStart=>exact⟨0,rfl,Nat.zero_le _,⟨mv,aS.out,by simpa using aJ.out,.inl rfl⟩,Spare.refl _ _⟩
 case round=>
  obtain⟨j,rfl,hj,⟨bn,hn,ho,hw⟩,am⟩:=hrel;obtain⟨a1,n1,c1,rfl⟩:=qr ho;have aL:n1=o.length+j:=yJ ho;subst aL;have bh:r<wr.heap.size:=(Ai hn).1;have al:=hid hn;have ap:=hid ho;have au:=hid hw;have ah:=hid am;by_cases ao:j<G.length
  case neg=>
   obtain rfl:j=G.length:=by omega
   have bf:wr.cell? ⟨r,34,none⟩=some (.int .u64 O):=qd hn 34;have be:=frozen_of_row wr r 34 _ _ hn;clear hn ho hw am;go_wp2
   go_end0
   have ar:=(But.refl r wr).set 34 (.int .u64 (IntKind.u64.wrap (O+(G.length:Int))));refine⟨rfl,⟨_,_,qhF al.out,?_⟩,ah.out.trans (Spare.of_but ((But.refl r wr).set 34 _)) (fun b _ U=>by have Z:=ae.out;subst Z;exact U.1)⟩;have h1:=ap.out;rw[List.take_length]at h1;rw[List.length_append];exact YI h1 ((But.refl r wr).set 34 _) al.out (by decide)
  have ak:G≠[]:=fun e=>by rw[e]at ao;simp at ao
  have ay:Hold wr (.slice ba G.length bc) G:=Zd aw.out aw.out rfl (Spare.refl S w) am (fun b U=>by have h4:=ae.out;subst h4;exact az.out ak b U) ak;obtain⟨Y,ag,rfl,q1,q2,q3,q4⟩:=qaK ay Br ao;have bg:(j:Int)<G.length:=by omega
  have ar:o++G.take (j+1)=(o++G.take j)++[qo G j]:=by rw[jS ao,List.append_assoc]
  have aW:=hid ar;have bm:=hid ay;obtain⟨z,hz⟩:=Ex (qo G j);rw[hz]at q2 q3 q4;have HZ:=hid hz;have Q2:=hid q2;have bj:(o.length:Int)+j<140737488355328:=by omega
  clear hn ho hw am ar ay hz q2;go_upto_region 3 with(fail)
  have aj: ∀(W:World) (f:Bool),((f=false->Below wr.heap.size wr W)/\(f=true->W.heap[r]? =some (.cells (rN (kB big) v sa pe kv la (.slice a1 (o.length+j) c1) O) 259 (0,0))/\Spare (fun b=>(Value.slice a1 (o.length+j) c1).ownBlock≠some b) wr W))->W.cell? ⟨Y,ag+j,none⟩=some (.int .u8 z):=fun W f J=>by
   cases f
   ·exact((J.1 rfl).cell (p:=⟨Y,ag+j,none⟩) q1).trans Q2.out
   ·refine(World.cell?_of_block ((J.2 rfl).2.block Y q1 ?_)).trans Q2.out;have h4:=ae.out;subst h4;have h5:=(az.out ak Y rfl).2;rcases au.out with h6|h6
    ·rw[h6];exact h5
    ·intro e;have:=h6 Y e;have h7:Y<w.heap.size:=Y7 aw.out ak rfl;omega
  have an: ∀(W:World) (f:Bool),((f=false->Below wr.heap.size wr W)/\(f=true->W.heap[r]? =some (.cells (rN (kB big) v sa pe kv la (.slice a1 (o.length+j) c1) O) 259 (0,0))/\Spare (fun b=>(Value.slice a1 (o.length+j) c1).ownBlock≠some b) wr W))->Y<W.heap.size:=fun W f J=>by
   cases f
   ·exact Nat.lt_of_lt_of_le q1 (J.1 rfl).size
   ·exact Nat.lt_of_lt_of_le q1 (J.2 rfl).2.size
  have af: ∀(W:World) (f:Bool),((f=false->Below wr.heap.size wr W)/\(f=true->W.heap[r]? =some (.cells (rN (kB big) v sa pe kv la (.slice a1 (o.length+j) c1) O) 259 (0,0))/\Spare (fun b=>(Value.slice a1 (o.length+j) c1).ownBlock≠some b) wr W))->wr.heap.size<=W.heap.size:=fun W f J=>by
   cases f
   ·exact(J.1 rfl).size
   ·exact(J.2 rfl).2.size
  refine YA (n:=11) (fun f W=>(f=false->Below wr.heap.size wr W)/\(f=true->W.heap[r]? =some (.cells (rN (kB big) v sa pe kv la (.slice a1 (o.length+j) c1) O) 259 (0,0))/\Spare (fun b=>(Value.slice a1 (o.length+j) c1).ownBlock≠some b) wr W)) 10 [.z 11 r 0,.z 12 r 0,.z 13 r 0,.z 14 r 33,.v 15 (.slice a1 (o.length+j) c1),.v 16 (.slice (some ⟨Y,ag,none⟩) G.length bc),.v 17 (.int .i64 j),.z 18 Y (ag+j),.v 19 (.int .u8 z),.p 20 (fun u W=> ∃q,u= .slice (some ⟨q,0,none⟩) 1 1/\wr.heap.size<=q/\W.heap[q]? =some (.cells #[.int .u8 z] 5 (0,0))),.p 21 (fun u W=>W.ownsRow 0 5 1 u (o.length+(j+1)) ((o++G.take (j+1)).map qp)/\(u.ownBlock=(Value.slice a1 (o.length+j) c1).ownBlock\/ ∀g,u.ownBlock=some g->wr.heap.size<=g))] (by exact⟨(fun _ _ U _ h=>by obtain⟨q,e,h1,Z⟩:=h;exact⟨q,e,h1,qf Z U⟩),(fun _ _ U u h=>⟨qi h.1 (fun g _ hg=>U.block g hg),h.2⟩),trivial⟩) ⟨fun _=>Br.drew,fun h=>(by cases h)⟩ (fun f W W' h U=>⟨fun e=>(h.1 e).trans (U.mono (h.1 e).size),fun e=>⟨qf (h.2 e).1 U,(h.2 e).2.trans (Spare.of_below _ U) (fun _ _ h=>h)⟩⟩) ?_ ?_ ?_
  ·repeat' (with_reducible first|exact qz|refine qx ?_ ?_)
   all_goals try
    refine .inr ?_;intro A x W f V J hf I D K hK;have a0:=V.2 0 (by decide);conv at a0=>rhs;whnf
    have a1:=V.2 1 (by decide);conv at a1=>rhs;whnf
    have a4:=V.2 4 (by decide);conv at a4=>rhs;whnf
    simp only[QS,yc]at D;clear I V;first
    | go_simp
      exact hK _ _ BR rfl
    | have y0:W.cell? ⟨Y,ag+j,none⟩=some (.int .u8 z):=aj W f J
      have y1:Y<W.heap.size:=an W f J;go_simp
      exact hK _ _ BR rfl
   any_goals exact .inl rfl
   all_goals refine .inr ?_
   ·intro A x W f V J hf I _ K hK;have bl:=gw V I 3 14;clear I V;have aT:f=false:=hf (by kernel_rfl);have g0:=qf al.out (J.1 aT);have c0:W.cell? ⟨r,33,none⟩=some (.slice a1 (o.length+j) c1):=qd g0 33;go_simp
    exact hK _ _ BR rfl
   ·intro A x W f V J hf I _ K hK;have aK:=gw V I 8 19;clear I V;have a9:A.tmps[19]?.getD undef= .int .u8 z:=by rw[<-Lh];exact aK
    go_simp
    exact hK _ _ (Br.alloc Nl _) ⟨W.heap.size,rfl,af W f J,Wn W _⟩
  ·intro A x W V J I K hK;have aN:=gw V I 4 15;have aI:(fun u W=> ∃q,u= .slice (some ⟨q,0,none⟩) 1 1/\wr.heap.size<=q/\W.heap[q]? =some (.cells #[.int .u8 z] 5 (0,0))) (x 20) W:=I ⟨9,.data⟩ (by simp) rfl;have aM:A.tmps.getD 20 undef=x 20:=V.1 20 (by decide);clear I V;have hB:=J.1 rfl;have ho:=qi ap.out (fun g _ hg=>hB.block g hg);have g0:=qf al.out hB;obtain⟨qb,eq,bo,aO⟩:=aI;refine YX _ _ 24 rfl 0 5 i0 (.int .u8 0) 1 Tryz.underlying24 hi a7 a6 aR rfl (.slice a1 (o.length+j) c1) (o.length+j) ((o++G.take j).map qp) aN ho (.slice (some ⟨qb,0,none⟩) 1 1) 1 [.int .u8 z] (aM.trans eq) ⟨rfl,by simp[Value.oneCell'],.inr ⟨⟨qb,0,none⟩,1,rfl,jU aO⟩⟩ (by unfold maxLen;omega) (by omega) (Nat.zero_le _) ?_;intro v' w' h1 Z X;have h4:w'.heap[r]? =some (.cells (rN (kB big) v sa pe kv la (.slice a1 (o.length+j) c1) O) 259 (0,0)):=(Z.block r (Ai g0).1 (qd3 ho g0 (by decide))).trans g0;have h5:w'.ownsRow 0 5 1 v' (o.length+(j+1)) ((o++G.take (j+1)).map qp):=by rw[aW.out,HZ.out,List.map_append,<-Nat.add_assoc];exact h1
   have h6: ∀b,(Value.slice a1 (o.length+j) c1).ownBlock=some b->b<wr.heap.size:=fun b U=>qkq ap.out U
   refine hK v' w' (fun h=>by cases h) ⟨fun h=>(by cases h),fun _=>⟨h4,(Spare.of_below _ hB).trans (Spare.of_grown Z) (fun _ _ h=>h)⟩⟩ ⟨.inr (fun _ h=>h),.inr (fun _ h=>h),.inr (fun _ h=>h),.inr (fun _ h=>h),.inr (fun _ h=>h),.inr (fun _ h=>h),.inr (fun _ h=>h),.inr (fun _ h=>h),.inr (fun _ h=>h),.inr (fun u h=>by obtain⟨q,e,k1,k2⟩:=h;exact⟨q,e,k1,(Z.block q (Ai k2).1 (fun e2=>by have:=h6 q e2.symm;omega)).trans k2⟩),.inl rfl,trivial⟩ ⟨h5,?_⟩;rcases X with X|X
   ·exact .inl X
   ·refine .inr fun g hg=>?_
    rw[X]at hg;cases hg;exact hB.size
  intro x W J aF;obtain⟨aA,ab, -⟩:=aF;change (fun u W=> ∃q,u= .slice (some ⟨q,0,none⟩) 1 1/\wr.heap.size<=q/\W.heap[q]? =some (.cells #[.int .u8 z] 5 (0,0))) (x 20) W at aA
  change ((fun u W=>W.ownsRow 0 5 1 u (o.length+(j+1)) ((o++G.take (j+1)).map qp)/\(u.ownBlock=(Value.slice a1 (o.length+j) c1).ownBlock\/ ∀g,u.ownBlock=some g->wr.heap.size<=g))) (x 21) W at ab
  obtain⟨ad,ax⟩:=J.2 rfl;obtain⟨ac,ai⟩:=ab;obtain⟨a3,n3,c3,ab⟩:=qr ac;rw[ab]at ac ai;obtain rfl:n3=o.length+(j+1):=yJ ac;refine qt ?_;simp only[QG,Act.put,Ls,ab];clear ab aA;have aV:W.cell? ⟨r,33,none⟩=some (.slice a1 (o.length+j) c1):=qd ad 33;have aY:=frozen_of_row W r 33 _ _ ad;have aX:r<W.heap.size:=(Ai ad).1;have aB:=hid ad;have aP:=hid ac;have aC:=hid ai;have aG:=hid ax;clear ad ac ai ax J aj an af;go_wp2_with fail
  refine qt ?_;go_wp2_with fail
  refine qt ?_;go_wp2_with fail
  refine qw ?_;have aq:But r W (W.setCell ⟨r,33,none⟩ (.slice a3 (o.length+(j+1)) c3)):=(But.refl r W).set 33 _;have aQ:=hid (show YD big (W.setCell ⟨r,33,none⟩ (.slice a3 (o.length+(j+1)) c3)) r v sa pe kv la (.slice a3 (o.length+(j+1)) c3) O from qdc aB.out);have a5:=hid (YI aP.out aq aB.out (by decide));have aU:=hid (show(Value.slice a3 (o.length+(j+1)) c3).ownBlock=mv.ownBlock\/ ∀g,(Value.slice a3 (o.length+(j+1)) c3).ownBlock=some g->w.heap.size<=g from by
   rcases aC.out with X|X
   ·rw[X];exact au.out
   ·exact .inr fun g hg=>Nat.le_trans ah.out.size (X g hg))
  have av:Spare S w (W.setCell ⟨r,33,none⟩ (.slice a3 (o.length+(j+1)) c3)):=by
   refine(ah.out.trans aG.out ?_).trans (Spare.of_but aq) (fun b _ U=>by have Z:=ae.out;subst Z;exact U.1);intro b bi aZ;have Z:=ae.out;subst Z;rcases au.out with X|X
   ·rw[X];exact aZ.2
   ·intro e;have:=X b e;omega
  have aE:=hid av;clear aq av aV aY aX;generalize W.setCell ⟨r,33,none⟩ (.slice a3 (o.length+(j+1)) c3)=W8 at*;go_wp2
  exact⟨⟨j+1,rfl,by omega,⟨_,aQ.out,a5.out,aU.out⟩,aE.out⟩,by simp[intOf];omega⟩
theorem qhD (big:Bool)(v:Nat->Nat)(a1 a2:Option Addr)(D r c1 c2:Nat)(kz:List Int)(kv:Value)(w:World)(hP:ParOk big v)(al:D<=sB big)(ai:r<=sB big)(hK:Hold w kv kz)(ag:kz.length<=mB big)(hk:kz.length=0\/kz.length=v 2):
  Calls Tryz.prog 159 #[.int .i64 (kB big),parN v (.slice a1 D c1) (.slice a2 r c2),kv] w fun e w'=> ∃o mv,e= .returned (.tuple #[.pointer (some ⟨o,0,none⟩),.int .i64 0])/\w.heap.size<=o/\YD big w' o v (.slice a1 D c1) (.slice a2 r c2) kv false mv 0/\w'.ownsRow w.heap.size 5 1 mv (yH (bB big) kz).length ((yH (bB big) kz).map qp)/\Below w.heap.size w w':=by
 obtain⟨G,U⟩:=Ex w.heap.size;obtain⟨ka,Z,rfl,ar,ao⟩:=hK.slice;have ab:=hid (Z1 hP a1 a2 c1 c2 al ai);have ah:Below G w (w.alloc (.cells #[.int .i64 (v 1),.int .i64 (v 2),.int .i64 (v 3),.int .i64 (v 4),.int .u32 (v 5),.int .u64 (v 6),.int .u32 (v 7),.int .i64 (v 8),.int .i64 (v 9),.slice a1 D c1,.slice a2 r c2] 179)):=by rw[<-U];exact Br.alloc Nl _
 have O:=Wn w (.cells #[.int .i64 (v 1),.int .i64 (v 2),.int .i64 (v 3),.int .i64 (v 4),.int .u32 (v 5),.int .u64 (v 6),.int .u32 (v 7),.int .i64 (v 8),.int .i64 (v 9),.slice a1 D c1,.slice a2 r c2] 179);rw[U]at O;have hq:(((kz.length:Int) != 0)&&((kz.length:Int) != (v 2:Nat)))=false:=by rcases hk with h|h<;>simp[h]
 obtain⟨q0,aE⟩: ∃q,((kz.length:Int) != 0)=q:=⟨_,rfl⟩;obtain⟨q1,aD⟩: ∃q,((kz.length:Int) != (v 2:Nat))=q:=⟨_,rfl⟩;rw[aE,aD]at hq;have aB:=hid hK;have aq:=hid ag;clear hP al ai hK ag hk ar ao;unfold parN parV;unfold parN parV at ab;go_enter Tryz.func159,Tryz.ntmps159
 go_upto_region 1 with(fail)
 generalize w.alloc (.cells #[.int .i64 (v 1),.int .i64 (v 2),.int .i64 (v 3),.int .i64 (v 4),.int .u32 (v 5),.int .u64 (v 6),.int .u32 (v 7),.int .i64 (v 8),.int .i64 (v 9),.slice a1 D c1,.slice a2 r c2] 179)=wA at*;go_wp2_with ((with_reducible show wpList _ _ _ (Oper.mk _ (Op.load 179 _) _ _ _ _::_) _ _);refine wpList_load_row rfl 179 _ rfl G rfl _ _ _ _ O Tryz.underlying179 rfl (by kernel_rfl) ?_)
 refine(ab.out wA).mono ?_;rintro e w1 ⟨rfl,V⟩;have S:=qf O V;have aw:=V.size;have an:G<wA.heap.size:=(Ai O).1;have ap:G<w1.heap.size:=by omega
 have aj:Below G w w1:=ah.trans (V.mono (by omega));have aC:w1.cell? ⟨G,1,none⟩=some (.int .i64 (v 2)):=qd S 1;have ak:=hid aj;have aG:=hid S;clear V ah O aj aw an ab
 cases q0<;>cases q1<;>first|(exfalso;cases hq;done)|skip
 all_goals
  clear hq;go_upto_region 7 with((with_reducible show wpList _ _ _ (Oper.mk _ (Op.load 179 _) _ _ _ _::_) _ _);refine wpList_load_row rfl 179 _ rfl G rfl _ _ _ _ S Tryz.underlying179 rfl (by kernel_rfl) ?_)
  change Code.wp _ _ _ _ (w1.alloc (.cells (rN (kB big) v (.slice a1 D c1) (.slice a2 r c2) (.slice ka kz.length Z) false (.slice none 0 0) 0) 259))
  have X:YD big (w1.alloc (.cells (rN (kB big) v (.slice a1 D c1) (.slice a2 r c2) (.slice ka kz.length Z) false (.slice none 0 0) 0) 259)) w1.heap.size v (.slice a1 D c1) (.slice a2 r c2) (.slice ka kz.length Z) false (.slice none 0 0) 0:=Wn _ _;have ac:Below G w (w1.alloc (.cells (rN (kB big) v (.slice a1 D c1) (.slice a2 r c2) (.slice ka kz.length Z) false (.slice none 0 0) 0) 259)):=ak.out.alloc (by omega) _;obtain⟨o,aF⟩:=Ex w1.heap.size;rw[aF]at X ap⊢;generalize (w1.alloc (.cells (rN (kB big) v (.slice a1 D c1) (.slice a2 r c2) (.slice ka kz.length Z) false (.slice none 0 0) 0) 259))=W2 at*;have av:=hid X;have az:=hid ac;have ad:=(aB.out.below (U▸ac));have aA:=hid ad;have aJ:o<W2.heap.size:=(Ai X).1;clear X ac ad aC aG S ak;go_wp2_with fail
  refine(qeQ big kz _ W2 aA.out aq.out).mono ?_;rintro e I ⟨mv,rfl,ho,aa⟩;obtain⟨ma,Y,mc,rfl⟩:=qr ho;have J:=qf av.out aa;have aH:I.cell? ⟨o,33,none⟩=some (.slice none 0 0):=qd J 33;have aI:=frozen_of_row I o 33 _ _ J;have aK:o<I.heap.size:=(Ai J).1;have af:Below G w I:=az.out.trans (aa.mono (by omega));have am:But o I (I.setCell ⟨o,33,none⟩ (.slice ma Y mc)):=(But.refl o I).set 33 _;have ae:(I.setCell ⟨o,33,none⟩ (.slice ma Y mc)).ownsRow w.heap.size 5 1 (.slice ma Y mc) (yH (bB big) kz).length ((yH (bB big) kz).map qp):=by
   rcases ho.2 with⟨h2,h3⟩|⟨g,au,ay,h2,h3,h4,h5⟩
   ·exact⟨ho.1,.inl ⟨h2,h3⟩⟩
   ·refine⟨ho.1,.inr ⟨g,au,ay,h2,by omega,?_,h5⟩⟩;rw[am.block g (Ai h4).1 (by omega)];exact h4
  have HF:=hid (show YD big (I.setCell ⟨o,33,none⟩ (.slice ma Y mc)) o v (.slice a1 D c1) (.slice a2 r c2) (.slice ka kz.length Z) false (.slice ma Y mc) 0 from qdc J);have HO:=hid ae;have ax:=hid (show Below G w (I.setCell ⟨o,33,none⟩ (.slice ma Y mc)) from af.setCell (by show G<=o;omega) _);clear ho aa J af am ae;go_wp2
  go_ret2
  exact⟨o,_,rfl,by omega,HF.out,HO.out,by rw[U];exact ax.out⟩
theorem ZK {P:Program}{fn:Func}{p G q r:Tmp}{o:TypeId}(h:fn.results= #[.cell p o,.tmp G,.tmp q,.tmp r])(tmps:Array Value)(w:World)(g:Nat)(t:TypeId)(cs:Array Value)(fr:Nat×Nat)(d:TypeDesc)
  (I:tmps.getD p undef= .pointer (some ⟨g,0,none⟩)) (O:w.heap[g]? =some (.cells cs t fr))
  (S:P.underlying o=some d) (J:(match d with| .struct _| .array _ _=>true|_=>false)=true) (hi:(P.info? o).map (·.size)=some cs.size):
  (results fn tmps).run P w= .ok (.tuple #[.agg cs,tmps.getD G undef,tmps.getD q undef,tmps.getD r undef]) w:=by
 have D:tmps[p]?.getD undef= .pointer (some ⟨g,0,none⟩):=by simpa using I
 simp[results,h,D,asAddr,run_loadVar_row w g t o cs fr d O S J hi]
theorem qiV {L k:Nat}(o:0<n)(D:k<=nbk n L):(n*k+n<L↔k<nbk n L):=by
 have r:=YF o L;have e:n*(k+1)=n*k+n:=Nat.mul_succ _ _;constructor
 ·intro h;refine Nat.lt_of_le_of_ne D fun G=>?_
  rw[G]at h;omega
 ·intro h;have I:n*(k+1)<=n*nbk n L:=Nat.mul_le_mul_left _ h;by_cases q:0<L
  ·have:=r.2.2 q;omega
  ·have:L=0:=by omega
   subst this;rw[qfa]at h;omega
theorem qbW (v:Nat->Nat)(z1 z2 o:List Int)(sa pe kv mv:Value)(la:Bool)(ak:Int)(G:Nat)(w:World)(hN:YD true w G v sa pe kv la mv ak)(hP:ParOk true v)(h1:Hold w sa z1)(h2:Hold w pe z2)(aJ:z1.length<=16)(aH:z2.length<=16)(hM:Hold w mv o)(aZ:(o.length:Int)<=281474976710656):
  Calls Tryz.prog 182 #[.pointer (some ⟨G,0,none⟩)] w fun e w'=>e= .returned (.tuple #[.agg (qj .u64 (qN (stZ true (h0Z true (QV true v z1 z2)) o (nbk 128 o.length)))),.int .u64 ((128*nbk 128 o.length:Nat):Int),.int .u64 0,.int .i64 ((128*nbk 128 o.length:Nat):Int)])/\Below w.heap.size w w':=by
 obtain⟨S,V⟩:=Ex w.heap.size;obtain⟨ma,mc,rfl,aT,aS⟩:=hM.slice;have aM:G<S:=by rw[<-V];exact(Ai hN).1
 have aK:=fun(W:World) (J:Below S w W)=>qcP v z1 z2 sa pe kv (.slice ma o.length mc) la ak G W ((J.block G aM).trans hN) hP (h1.below (V▸J)) (h2.below (V▸J)) aJ aH
 have aB:=fun(W:World) (J:Below S w W)=>hM.below (V▸J)
 have ah:=Q4 true (QV true v z1 z2);generalize h0Z true (QV true v z1 z2)=U at*;have aL:=fun k=>Yr true ah o k
 obtain⟨Q,hQ⟩:=Ex (nbk 128 o.length);have ab:=fun(k:Nat) (hk:k<=Q)=>(hQ▸qiV (n:=128) (L:=o.length) (by decide) (hQ▸hk):(128*k+128<o.length↔k<Q))
 have br:128*Q<=o.length:=by rw[<-hQ];exact(YF (by decide) _).1
 rw[hQ];have aI:w.heap[G]? =some (.cells (rN 1 v sa pe kv la (.slice ma o.length mc) ak) 259 (0,0)):=hN;have ar:=hid aK;have aP:=hid aB;have aw:=hid aL;have aO:=hid ab;have aV:=hid aI;have ba:=hid hM.1;clear hN aI aK aB aL hQ ab hP h1 h2 hM aT aS aJ aH;go_enter Tryz.func182,Tryz.ntmps182
 go_wp2_with fail
 have ao:Below S w (w.alloc (.cells #[.int .u64 0,.int .u64 0,.int .u64 0,.int .u64 0,.int .u64 0,.int .u64 0,.int .u64 0,.int .u64 0,.int .u64 0,.int .u64 0,.int .u64 0,.int .u64 0,.int .u64 0,.int .u64 0,.int .u64 0,.int .u64 0] 257)):=by rw[<-V];exact Br.alloc Nl _
 have r0:(w.alloc (.cells #[.int .u64 0,.int .u64 0,.int .u64 0,.int .u64 0,.int .u64 0,.int .u64 0,.int .u64 0,.int .u64 0,.int .u64 0,.int .u64 0,.int .u64 0,.int .u64 0,.int .u64 0,.int .u64 0,.int .u64 0,.int .u64 0] 257)).heap[S]? =some (.cells #[.int .u64 0,.int .u64 0,.int .u64 0,.int .u64 0,.int .u64 0,.int .u64 0,.int .u64 0,.int .u64 0,.int .u64 0,.int .u64 0,.int .u64 0,.int .u64 0,.int .u64 0,.int .u64 0,.int .u64 0,.int .u64 0] 257 (0,0)):=by rw[<-V];exact Wn _ _
 have aX:(w.alloc (.cells #[.int .u64 0,.int .u64 0,.int .u64 0,.int .u64 0,.int .u64 0,.int .u64 0,.int .u64 0,.int .u64 0,.int .u64 0,.int .u64 0,.int .u64 0,.int .u64 0,.int .u64 0,.int .u64 0,.int .u64 0,.int .u64 0] 257)).heap.size=S+1:=by simp[V]
 generalize (w.alloc (.cells #[.int .u64 0,.int .u64 0,.int .u64 0,.int .u64 0,.int .u64 0,.int .u64 0,.int .u64 0,.int .u64 0,.int .u64 0,.int .u64 0,.int .u64 0,.int .u64 0,.int .u64 0,.int .u64 0,.int .u64 0,.int .u64 0] 257))=W1 at*;refine(ar.out W1 ao).mono ?_;rintro e w2 ⟨rfl,al⟩;have aa:=al.size;have aF:=qf r0 al;have az:=ao.trans (al.mono (by omega));have R0:=hid aF;have aC:=hid az;clear ao r0 al aF az ar;have aE:=hid (Qh (by decide) ah);clear ah;go_upto_region 2 with((with_reducible show wpList _ _ _ (Oper.mk none (Op.store 257 _ _) _ _ _ _::_) _ _);refine wpList_store_row rfl 257 _ _ rfl w2.heap.size (qj .u64 (qN U)) rfl rfl 257 _ (Wn _ _) (by rw[qg,aE.out.1];kernel_rfl) (by rw[qg,aE.out.1];rfl) qA ?_)
 refine qm ?_;intro W O;obtain⟨Y,aq⟩:=Ex w2.heap.size;have m6:W.heap[Y]? =some (.cells (qj .u64 (qN (stZ true U o 0))) 257 (0,0)):=by rw[O,<-aq];exact setRow_heap _ _ _ _ _ _ (Wn _ _)
 have m0:W.heap[S]? =some (.cells #[.int .u64 0,.int .u64 0,.int .u64 0,.int .u64 0,.int .u64 0,.int .u64 0,.int .u64 0,.int .u64 0,.int .u64 0,.int .u64 0,.int .u64 0,.int .u64 0,.int .u64 0,.int .u64 0,.int .u64 0,.int .u64 0] 257 (0,0)):=by rw[O];exact(setRow_other (w2.alloc _) _ _ _ (by omega)).trans ((Bh _ _ _ (by omega)).trans R0.out)
 have ae:Below S w W:=by rw[O];exact below_setRow (aC.out.alloc (by omega) _) (by omega) _
 have mn:W.heap[G]? =some (.cells (rN 1 v sa pe kv la (.slice ma o.length mc) ak) 259 (0,0)):=(ae.block G aM).trans aV.out;rw[aq];have bf:S<Y:=by omega
 have bi:Y<W.heap.size:=(Ai m6).1;have bm:W.cell? ⟨G,31,none⟩=some (.int .u64 0):=qd mn 31;have bl:W.cell? ⟨G,32,none⟩=some (.int .u64 0):=qd mn 32;have bg:W.cell? ⟨G,0,none⟩=some (.int .i64 1):=qd mn 0;have M6:=hid m6;have M0:=hid m0;have MN:=hid mn;have a3:=hid ae;clear O aq m6 m0 mn ae R0 aC aX aa;go_wp2_with fail
 refine(zz true _).mono ?_;rintro e w4 ⟨rfl,hw⟩;rw[hw];clear hw;rw[show((bB true:Nat):Int)=128 from rfl];go_wp2_with fail
 go_loopw [7,8,10] (fun lo hi at_ wr=> ∃k:Nat,lo= .int .u64 ((128*k:Nat):Int)/\hi= .int .u64 0/\at_= .int .i64 ((128*k:Nat):Int)/\k<=Q/\wr.heap[Y]? =some (.cells (qj .u64 (qN (stZ true U o k))) 257 (0,0))/\But Y W wr) (fun _ _ at_ _=>o.length - (intOf at_).toNat)
 case atStart=>exact⟨0,rfl,rfl,rfl,Nat.zero_le _,M6.out,But.refl _ _⟩
 case round=>
  obtain⟨k,rfl,rfl,rfl,hk,af,J⟩:=hrel;have aQ:Y<wr.heap.size:=by have:=J.size;omega
  have hn:=(J.block G (by omega) (by omega)).trans MN.out;have a4:wr.cell? ⟨G,33,none⟩=some (.slice ma o.length mc):=qd hn 33;have aY:G<wr.heap.size:=by omega
  have av:Below S w wr:=a3.out.trans (J.below (by omega) (by omega));have ac:=aO.out k hk;have ax:128*k<=128*Q:=Nat.mul_le_mul_left _ hk;obtain⟨s,hs⟩:=Ex (128*k);have aa:128*(k+1)=s+128:=by rw[<-hs];exact Nat.mul_succ _ _
  have aU:=hid (show qaQ 128 o k=QI 128 ((o.drop s).take 128) by unfold qaQ;rw[hs]);have aD:=hid aa;have HS:=hid hs;rw[hs]at ac ax⊢;have am:=aw.out k;have ag:stZ true U o (k+1)=yR true (stZ true U o k) (QI 128 ((o.drop s).take 128)) ((s+128:Nat):Int) false false:=by
   show yR true (stZ true U o k) (qaQ (bB true) o k) ((bB true*(k+1):Nat):Int) false false=_
   rw[show bB true=128 from rfl,aU.out,aa]
  have aj:=hid af;have bc:=hid J;have aA:=hid hn;have ai:=hid av;have ad:=hid am;have ay:=hid ag;clear hs aa;have bj:(s:Int)<=o.length:=by omega
  by_cases ab:k<Q
  case neg=>
   obtain rfl:k=Q:=by omega
   have bk: ¬((s:Int)+128<o.length):=by have:=ac;omega
   have n0:=(J.block S (by omega) (by omega)).trans M0.out;have I:=Qh (by decide) am;have bd:S<wr.heap.size:=by omega
   clear J hn av am ag ac ab ax;go_wp2_with (first|((with_reducible show wpList _ _ _ (Oper.mk (some 62) _ _ _ _ _::_) _ _);refine wpList_load_row rfl 257 _ rfl Y rfl _ _ _ _ af Tryz.underlying257 rfl (by rw[qg,I.1];kernel_rfl) ?_)|((with_reducible show wpList _ _ _ (Oper.mk none (Op.store 257 _ _) _ _ _ _::_) _ _);refine wpList_store_row rfl 257 _ _ rfl S (qj .u64 (qN (stZ true U o k))) rfl rfl 257 _ n0 (by rw[qg,I.1];kernel_rfl) (by rw[qg,I.1];rfl) qA ?_))
   exact Bp (ZK rfl _ _ S 257 _ _ _ rfl (setRow_heap _ _ _ _ _ _ n0) Tryz.underlying257 rfl (by rw[qg,I.1];kernel_rfl)) rfl ⟨by rw[show((128:Int)*(k:Int))=(s:Int) from by have:=HS.out;omega];rfl,by first|exact below_setRow ai.out Nl _|(rw[V];exact below_setRow ai.out Nl _)⟩
  have be:(s:Int)+128<o.length:=by have:=ac.2 ab;omega
  have an:(s:Int)+128<9223372036854775808:=by omega
  have aN:=hid an;clear af J hn av am ag ac ax an;go_wp2_with fail
  refine(jZ s 128 (by omega) _).mono ?_;rintro e w4 ⟨rfl,hw⟩;rw[hw];clear hw;go_upto_region 8 with(fail)
  refine qE (n:=15) (w0:=wr) (B:=wr.heap.size) [.z 44 G 0,.z 45 G 0,.z 46 G 0,.v 47 (.int .i64 1),.v 48 (.agg (qj .u64 (qN (stZ true U o k)))),.z 49 G 0,.z 50 G 0,.z 51 G 33,.v 52 (.slice ma o.length mc),.v 53 (.int .i64 s),.v 54 (.int .i64 128),.p 55 (fun u W=>W.ownsRow wr.heap.size 5 1 u 128 ((QI 128 ((o.drop s).take 128)).map qp)),.v 56 (.int .u64 ((s:Int)+128)),.v 57 (.int .u64 0),.v 58 (.agg (qj .u64 (qN (stZ true U o (k+1)))))] (by exact⟨(fun _ _ _ h J=>qi h (fun g _ hg=>J.block g hg)),trivial⟩) Br.drew Nl ?_ ?_
  ·repeat' (with_reducible first|exact qz|refine qx ?_ ?_)
   all_goals try
    intro A x W r O X q D K Z;have a0:=r.2 0 (by decide);conv at a0=>rhs;whnf
    have aW:=r.2 10 (by decide);conv at aW=>rhs;whnf
    have a9:=r.2 9 (by decide);conv at a9=>rhs;whnf
    have a7:=r.2 7 (by decide);conv at a7=>rhs;whnf
    have a8:=r.2 8 (by decide);conv at a8=>rhs;whnf
    simp only[QS,yc]at D;clear q r;go_simp
    exact Z _ _ BR rfl
   ·intro A x W r O X q _ K Z;have bs:=gv r q 2 46;clear q r;have g0:=qf aA.out O;have c0:W.cell? ⟨G,0,none⟩=some (.int .i64 1):=qd g0 0;go_simp
    exact Z _ _ BR rfl
   ·intro A x W r O X q _ K Z;have a6:=r.2 6 (by decide);conv at a6=>rhs;whnf
    clear q r;have g0:=qf aj.out O;have I:=Qh (by decide) ad.out;refine wp_load_row 257 _ rfl Y a6 _ _ _ _ g0 Tryz.underlying257 rfl (by rw[qg,I.1];kernel_rfl) (Z _ _ Br rfl)
   ·intro A x W r O X q _ K Z;have bp:=gv r q 7 51;clear q r;have g0:=qf aA.out O;have c0:W.cell? ⟨G,33,none⟩=some (.slice ma o.length mc):=qd g0 33;go_simp
    exact Z _ _ BR rfl
   ·intro A x W r O X q _ K Z;have bq:=gv r q 8 52;have bn:=gv r q 9 53;have bt:=gv r q 10 54;clear q r;go_simp
    refine(jY o _ s 128 W (aP.out W (ai.out.trans (O.mono (by omega)))) (by decide) (by omega) aZ).mono ?_;rintro e w' ⟨u,rfl,ho,J⟩;exact Z _ _ J (ownsRow_le ho X)
   ·intro A x W r O X q _ K Z;have bu:=gv r q 3 47;have bv:=gv r q 4 48;have a5:(fun u W=>W.ownsRow wr.heap.size 5 1 u 128 ((QI 128 ((o.drop s).take 128)).map qp)) (x 55) W:=q ⟨11,.data⟩ (by simp) rfl _ rfl;have bw:A.tmps.getD 55 undef=x 55:=r.1 55 (by decide);have bo:=gv r q 12 56;have bh:=gv r q 13 57;clear q r;have bb:=yy (n:=128) (zs:=(o.drop s).take 128) (fun z hz=>ba.out z (List.mem_of_mem_drop (List.mem_of_mem_take hz)));go_simp
    rw[show(s:Int)+128=((s+128:Nat):Int) from rfl];refine(qb1 (stZ true U o k) (QI 128 ((o.drop s).take 128)) ad.out _ (s+128) aN.out false false W (yj a5) bb (QP (List.length_take_le _ _))).mono ?_;rintro e w' ⟨rfl,J⟩;rw[<-ay.out];exact Z _ _ J rfl
  intro x W O X aR;obtain⟨aG, -⟩:=aR;change (fun u W=>W.ownsRow wr.heap.size 5 1 u 128 ((QI 128 ((o.drop s).take 128)).map qp)) (x 55) W at aG
  refine qt ?_;simp only[QG,Act.put,Ls];have ap:=qf aj.out O;have I:=Qh (by decide) (aw.out (k+1));have au:=Qh (by decide) ad.out;refine wpList_store_row rfl 257 _ _ rfl Y (qj .u64 (qN (stZ true U o (k+1)))) rfl rfl 257 _ ap (by rw[qg,I.1];kernel_rfl) (by rw[qg,qg,I.1,au.1]) qA ?_;refine qw ?_;have HA:=hid (setRow_heap _ Y _ (qj .u64 (qN (stZ true U o (k+1)))) _ _ ap);have HC:=hid (bc.out.trans ((But.of_below O).trans (But.of_setRow _ Y (qj .u64 (qN (stZ true U o (k+1)))))));clear ap I au aG O X a4 aY aQ;go_wp2
  refine⟨⟨k+1,by rw[aD.out];rfl,rfl,by rw[aD.out];rfl,by omega,HA.out,HC.out⟩,?_⟩;simp[intOf];omega
theorem qbq (v:Nat->Nat)(z1 z2 o:List Int)(sa pe kv mv:Value)(la:Bool)(ak:Int)(G:Nat)(w:World)(hN:YD false w G v sa pe kv la mv ak)(hP:ParOk false v)(h1:Hold w sa z1)(h2:Hold w pe z2)(aJ:z1.length<=8)(aH:z2.length<=8)(hM:Hold w mv o)(aZ:(o.length:Int)<=281474976710656):
  Calls Tryz.prog 182 #[.pointer (some ⟨G,0,none⟩)] w fun e w'=>e= .returned (.tuple #[.agg (qj .u64 (qN (stZ false (h0Z false (QV false v z1 z2)) o (nbk 64 o.length)))),.int .u64 ((64*nbk 64 o.length:Nat):Int),.int .u64 0,.int .i64 ((64*nbk 64 o.length:Nat):Int)])/\Below w.heap.size w w':=by
 obtain⟨S,V⟩:=Ex w.heap.size;obtain⟨ma,mc,rfl,aT,aS⟩:=hM.slice;have aM:G<S:=by rw[<-V];exact(Ai hN).1
 have aK:=fun(W:World) (J:Below S w W)=>qb5 v z1 z2 sa pe kv (.slice ma o.length mc) la ak G W ((J.block G aM).trans hN) hP (h1.below (V▸J)) (h2.below (V▸J)) aJ aH
 have aB:=fun(W:World) (J:Below S w W)=>hM.below (V▸J)
 have ah:=Q4 false (QV false v z1 z2);generalize h0Z false (QV false v z1 z2)=U at*;have aL:=fun k=>Yr false ah o k
 obtain⟨Q,hQ⟩:=Ex (nbk 64 o.length);have ab:=fun(k:Nat) (hk:k<=Q)=>(hQ▸qiV (n:=64) (L:=o.length) (by decide) (hQ▸hk):(64*k+64<o.length↔k<Q))
 have br:64*Q<=o.length:=by rw[<-hQ];exact(YF (by decide) _).1
 rw[hQ];have aI:w.heap[G]? =some (.cells (rN 2 v sa pe kv la (.slice ma o.length mc) ak) 259 (0,0)):=hN;have ar:=hid aK;have aP:=hid aB;have aw:=hid aL;have aO:=hid ab;have aV:=hid aI;have ba:=hid hM.1;clear hN aI aK aB aL hQ ab hP h1 h2 hM aT aS aJ aH;go_enter Tryz.func182,Tryz.ntmps182
 go_wp2_with fail
 have ao:Below S w (w.alloc (.cells #[.int .u64 0,.int .u64 0,.int .u64 0,.int .u64 0,.int .u64 0,.int .u64 0,.int .u64 0,.int .u64 0,.int .u64 0,.int .u64 0,.int .u64 0,.int .u64 0,.int .u64 0,.int .u64 0,.int .u64 0,.int .u64 0] 257)):=by rw[<-V];exact Br.alloc Nl _
 have r0:(w.alloc (.cells #[.int .u64 0,.int .u64 0,.int .u64 0,.int .u64 0,.int .u64 0,.int .u64 0,.int .u64 0,.int .u64 0,.int .u64 0,.int .u64 0,.int .u64 0,.int .u64 0,.int .u64 0,.int .u64 0,.int .u64 0,.int .u64 0] 257)).heap[S]? =some (.cells #[.int .u64 0,.int .u64 0,.int .u64 0,.int .u64 0,.int .u64 0,.int .u64 0,.int .u64 0,.int .u64 0,.int .u64 0,.int .u64 0,.int .u64 0,.int .u64 0,.int .u64 0,.int .u64 0,.int .u64 0,.int .u64 0] 257 (0,0)):=by rw[<-V];exact Wn _ _
 have aX:(w.alloc (.cells #[.int .u64 0,.int .u64 0,.int .u64 0,.int .u64 0,.int .u64 0,.int .u64 0,.int .u64 0,.int .u64 0,.int .u64 0,.int .u64 0,.int .u64 0,.int .u64 0,.int .u64 0,.int .u64 0,.int .u64 0,.int .u64 0] 257)).heap.size=S+1:=by simp[V]
 generalize (w.alloc (.cells #[.int .u64 0,.int .u64 0,.int .u64 0,.int .u64 0,.int .u64 0,.int .u64 0,.int .u64 0,.int .u64 0,.int .u64 0,.int .u64 0,.int .u64 0,.int .u64 0,.int .u64 0,.int .u64 0,.int .u64 0,.int .u64 0] 257))=W1 at*;refine(ar.out W1 ao).mono ?_;rintro e w2 ⟨rfl,al⟩;have aa:=al.size;have aF:=qf r0 al;have az:=ao.trans (al.mono (by omega));have R0:=hid aF;have aC:=hid az;clear ao r0 al aF az ar;have aE:=hid (Qh (by decide) ah);clear ah;go_upto_region 2 with((with_reducible show wpList _ _ _ (Oper.mk none (Op.store 257 _ _) _ _ _ _::_) _ _);refine wpList_store_row rfl 257 _ _ rfl w2.heap.size (qj .u64 (qN U)) rfl rfl 257 _ (Wn _ _) (by rw[qg,aE.out.1];kernel_rfl) (by rw[qg,aE.out.1];rfl) qA ?_)
 refine qm ?_;intro W O;obtain⟨Y,aq⟩:=Ex w2.heap.size;have m6:W.heap[Y]? =some (.cells (qj .u64 (qN (stZ false U o 0))) 257 (0,0)):=by rw[O,<-aq];exact setRow_heap _ _ _ _ _ _ (Wn _ _)
 have m0:W.heap[S]? =some (.cells #[.int .u64 0,.int .u64 0,.int .u64 0,.int .u64 0,.int .u64 0,.int .u64 0,.int .u64 0,.int .u64 0,.int .u64 0,.int .u64 0,.int .u64 0,.int .u64 0,.int .u64 0,.int .u64 0,.int .u64 0,.int .u64 0] 257 (0,0)):=by rw[O];exact(setRow_other (w2.alloc _) _ _ _ (by omega)).trans ((Bh _ _ _ (by omega)).trans R0.out)
 have ae:Below S w W:=by rw[O];exact below_setRow (aC.out.alloc (by omega) _) (by omega) _
 have mn:W.heap[G]? =some (.cells (rN 2 v sa pe kv la (.slice ma o.length mc) ak) 259 (0,0)):=(ae.block G aM).trans aV.out;rw[aq];have bf:S<Y:=by omega
 have bi:Y<W.heap.size:=(Ai m6).1;have bm:W.cell? ⟨G,31,none⟩=some (.int .u64 0):=qd mn 31;have bl:W.cell? ⟨G,32,none⟩=some (.int .u64 0):=qd mn 32;have bg:W.cell? ⟨G,0,none⟩=some (.int .i64 2):=qd mn 0;have M6:=hid m6;have M0:=hid m0;have MN:=hid mn;have a3:=hid ae;clear O aq m6 m0 mn ae R0 aC aX aa;go_wp2_with fail
 refine(zz false _).mono ?_;rintro e w4 ⟨rfl,hw⟩;rw[hw];clear hw;rw[show((bB false:Nat):Int)=64 from rfl];go_wp2_with fail
 go_loopw [7,8,10] (fun lo hi at_ wr=> ∃k:Nat,lo= .int .u64 ((64*k:Nat):Int)/\hi= .int .u64 0/\at_= .int .i64 ((64*k:Nat):Int)/\k<=Q/\wr.heap[Y]? =some (.cells (qj .u64 (qN (stZ false U o k))) 257 (0,0))/\But Y W wr) (fun _ _ at_ _=>o.length - (intOf at_).toNat)
 case atStart=>exact⟨0,rfl,rfl,rfl,Nat.zero_le _,M6.out,But.refl _ _⟩
 case round=>
  obtain⟨k,rfl,rfl,rfl,hk,af,J⟩:=hrel;have aQ:Y<wr.heap.size:=by have:=J.size;omega
  have hn:=(J.block G (by omega) (by omega)).trans MN.out;have a4:wr.cell? ⟨G,33,none⟩=some (.slice ma o.length mc):=qd hn 33;have aY:G<wr.heap.size:=by omega
  have av:Below S w wr:=a3.out.trans (J.below (by omega) (by omega));have ac:=aO.out k hk;have ax:64*k<=64*Q:=Nat.mul_le_mul_left _ hk;obtain⟨s,hs⟩:=Ex (64*k);have aa:64*(k+1)=s+64:=by rw[<-hs];exact Nat.mul_succ _ _
  have aU:=hid (show qaQ 64 o k=QI 64 ((o.drop s).take 64) by unfold qaQ;rw[hs]);have aD:=hid aa;have HS:=hid hs;rw[hs]at ac ax⊢;have am:=aw.out k;have ag:stZ false U o (k+1)=yR false (stZ false U o k) (QI 64 ((o.drop s).take 64)) ((s+64:Nat):Int) false false:=by
   show yR false (stZ false U o k) (qaQ (bB false) o k) ((bB false*(k+1):Nat):Int) false false=_
   rw[show bB false=64 from rfl,aU.out,aa]
  have aj:=hid af;have bc:=hid J;have aA:=hid hn;have ai:=hid av;have ad:=hid am;have ay:=hid ag;clear hs aa;have bj:(s:Int)<=o.length:=by omega
  by_cases ab:k<Q
  case neg=>
   obtain rfl:k=Q:=by omega
   have bk: ¬((s:Int)+64<o.length):=by have:=ac;omega
   have n0:=(J.block S (by omega) (by omega)).trans M0.out;have I:=Qh (by decide) am;have bd:S<wr.heap.size:=by omega
   clear J hn av am ag ac ab ax;go_wp2_with (first|((with_reducible show wpList _ _ _ (Oper.mk (some 62) _ _ _ _ _::_) _ _);refine wpList_load_row rfl 257 _ rfl Y rfl _ _ _ _ af Tryz.underlying257 rfl (by rw[qg,I.1];kernel_rfl) ?_)|((with_reducible show wpList _ _ _ (Oper.mk none (Op.store 257 _ _) _ _ _ _::_) _ _);refine wpList_store_row rfl 257 _ _ rfl S (qj .u64 (qN (stZ false U o k))) rfl rfl 257 _ n0 (by rw[qg,I.1];kernel_rfl) (by rw[qg,I.1];rfl) qA ?_))
   exact Bp (ZK rfl _ _ S 257 _ _ _ rfl (setRow_heap _ _ _ _ _ _ n0) Tryz.underlying257 rfl (by rw[qg,I.1];kernel_rfl)) rfl ⟨by rw[show((64:Int)*(k:Int))=(s:Int) from by have:=HS.out;omega];rfl,by first|exact below_setRow ai.out Nl _|(rw[V];exact below_setRow ai.out Nl _)⟩
  have be:(s:Int)+64<o.length:=by have:=ac.2 ab;omega
  have an:(s:Int)+64<9223372036854775808:=by omega
  have aN:=hid an;clear af J hn av am ag ac ax an;go_wp2_with fail
  refine(jZ s 64 (by omega) _).mono ?_;rintro e w4 ⟨rfl,hw⟩;rw[hw];clear hw;go_upto_region 8 with(fail)
  refine qE (n:=15) (w0:=wr) (B:=wr.heap.size) [.z 44 G 0,.z 45 G 0,.z 46 G 0,.v 47 (.int .i64 2),.v 48 (.agg (qj .u64 (qN (stZ false U o k)))),.z 49 G 0,.z 50 G 0,.z 51 G 33,.v 52 (.slice ma o.length mc),.v 53 (.int .i64 s),.v 54 (.int .i64 64),.p 55 (fun u W=>W.ownsRow wr.heap.size 5 1 u 64 ((QI 64 ((o.drop s).take 64)).map qp)),.v 56 (.int .u64 ((s:Int)+64)),.v 57 (.int .u64 0),.v 58 (.agg (qj .u64 (qN (stZ false U o (k+1)))))] (by exact⟨(fun _ _ _ h J=>qi h (fun g _ hg=>J.block g hg)),trivial⟩) Br.drew Nl ?_ ?_
  ·repeat' (with_reducible first|exact qz|refine qx ?_ ?_)
   all_goals try
    intro A x W r O X q D K Z;have a0:=r.2 0 (by decide);conv at a0=>rhs;whnf
    have aW:=r.2 10 (by decide);conv at aW=>rhs;whnf
    have a9:=r.2 9 (by decide);conv at a9=>rhs;whnf
    have a7:=r.2 7 (by decide);conv at a7=>rhs;whnf
    have a8:=r.2 8 (by decide);conv at a8=>rhs;whnf
    simp only[QS,yc]at D;clear q r;go_simp
    exact Z _ _ BR rfl
   ·intro A x W r O X q _ K Z;have bs:=gv r q 2 46;clear q r;have g0:=qf aA.out O;have c0:W.cell? ⟨G,0,none⟩=some (.int .i64 2):=qd g0 0;go_simp
    exact Z _ _ BR rfl
   ·intro A x W r O X q _ K Z;have a6:=r.2 6 (by decide);conv at a6=>rhs;whnf
    clear q r;have g0:=qf aj.out O;have I:=Qh (by decide) ad.out;refine wp_load_row 257 _ rfl Y a6 _ _ _ _ g0 Tryz.underlying257 rfl (by rw[qg,I.1];kernel_rfl) (Z _ _ Br rfl)
   ·intro A x W r O X q _ K Z;have bp:=gv r q 7 51;clear q r;have g0:=qf aA.out O;have c0:W.cell? ⟨G,33,none⟩=some (.slice ma o.length mc):=qd g0 33;go_simp
    exact Z _ _ BR rfl
   ·intro A x W r O X q _ K Z;have bq:=gv r q 8 52;have bn:=gv r q 9 53;have bt:=gv r q 10 54;clear q r;go_simp
    refine(jY o _ s 64 W (aP.out W (ai.out.trans (O.mono (by omega)))) (by decide) (by omega) aZ).mono ?_;rintro e w' ⟨u,rfl,ho,J⟩;exact Z _ _ J (ownsRow_le ho X)
   ·intro A x W r O X q _ K Z;have bu:=gv r q 3 47;have bv:=gv r q 4 48;have a5:(fun u W=>W.ownsRow wr.heap.size 5 1 u 64 ((QI 64 ((o.drop s).take 64)).map qp)) (x 55) W:=q ⟨11,.data⟩ (by simp) rfl _ rfl;have bw:A.tmps.getD 55 undef=x 55:=r.1 55 (by decide);have bo:=gv r q 12 56;have bh:=gv r q 13 57;clear q r;have bb:=yy (n:=64) (zs:=(o.drop s).take 64) (fun z hz=>ba.out z (List.mem_of_mem_drop (List.mem_of_mem_take hz)));go_simp
    rw[show(s:Int)+64=((s+64:Nat):Int) from rfl];refine(qa4 (stZ false U o k) (QI 64 ((o.drop s).take 64)) ad.out _ (s+64) aN.out false false W (yj a5) bb (QP (List.length_take_le _ _))).mono ?_;rintro e w' ⟨rfl,J⟩;rw[<-ay.out];exact Z _ _ J rfl
  intro x W O X aR;obtain⟨aG, -⟩:=aR;change (fun u W=>W.ownsRow wr.heap.size 5 1 u 64 ((QI 64 ((o.drop s).take 64)).map qp)) (x 55) W at aG
  refine qt ?_;simp only[QG,Act.put,Ls];have ap:=qf aj.out O;have I:=Qh (by decide) (aw.out (k+1));have au:=Qh (by decide) ad.out;refine wpList_store_row rfl 257 _ _ rfl Y (qj .u64 (qN (stZ false U o (k+1)))) rfl rfl 257 _ ap (by rw[qg,I.1];kernel_rfl) (by rw[qg,qg,I.1,au.1]) qA ?_;refine qw ?_;have HA:=hid (setRow_heap _ Y _ (qj .u64 (qN (stZ false U o (k+1)))) _ _ ap);have HC:=hid (bc.out.trans ((But.of_below O).trans (But.of_setRow _ Y (qj .u64 (qN (stZ false U o (k+1)))))));clear ap I au aG O X a4 aY aQ;go_wp2
  refine⟨⟨k+1,by rw[aD.out];rfl,rfl,by rw[aD.out];rfl,by omega,HA.out,HC.out⟩,?_⟩;simp[intOf];omega
theorem Z3 (n:Nat){h g:List Int}: ∀i,(∀j,j<i->wd h j=wd g j)->qQ n h i=qQ n g i
 | 0,_=>rfl
 | i+1,H=>by rw[qQ,qQ,Z3 n i (fun j o=>H j (by omega)),H i (by omega)]
theorem qeP (v:Nat->Nat)(z1 z2 q:List Int)(sa pe kv mv:Value)(la:Bool)(aa:Int)(G:Nat)(w:World)(hN:YD true w G v sa pe kv la mv aa)(hP:ParOk true v)(h1:Hold w sa z1)(h2:Hold w pe z2)(az:z1.length<=16)(ax:z2.length<=16)(hM:Hold w mv q)(au:(q.length:Int)<=281474976710656):
  Calls Tryz.prog 162 #[.pointer (some ⟨G,0,none⟩)] w fun e w'=> ∃u,e= .returned u/\w'.ownsRow w.heap.size 5 1 u 64 ((Zc true (h0Z true (QV true v z1 z2)) q la).map qp)/\Below w.heap.size w w':=by
 obtain⟨b0,Z⟩:=Ex w.heap.size;have ah:=qbW v z1 z2 q sa pe kv mv la aa G w hN hP h1 h2 az ax hM au;obtain⟨ma,mc,rfl,aG,aE⟩:=hM.slice;have aO:G<b0:=by rw[<-Z];exact(Ai hN).1
 have ar:=fun(W:World) (U:Below b0 w W)=>hM.below (Z▸U)
 have am:=Q4 true (QV true v z1 z2);generalize h0Z true (QV true v z1 z2)=H0 at*;have ab:=Yr true am q (nbk 128 q.length);have an:=YF (n:=128) (by decide) q.length;have al:Zc true H0 q la=qQ 8 (yR true (stZ true H0 q (nbk 128 q.length)) (QI 128 ((q.drop (128*nbk 128 q.length)).take 128)) (q.length:Int) true la) 8:=rfl;rw[al];obtain⟨ST,aj⟩:=Ex (stZ true H0 q (nbk 128 q.length));obtain⟨s,hs⟩:=Ex (128*nbk 128 q.length);rw[aj,hs]at ah⊢;rw[aj]at ab;rw[hs]at an;obtain⟨R,hR⟩:=Ex (yR true ST (QI 128 ((q.drop s).take 128)) (q.length:Int) true la);have ag:Words 64 8 R:=by rw[<-hR];exact Q1 true ab _ _ _ _
 rw[hR];have ap:qQ 8 R 8=qQ 8 (qN R) 8:=Z3 8 8 (fun j hj=>(qbz ag.1 hj).symm);rw[ap];have bb:s<=q.length:=an.1;have ay:w.heap[G]? =some (.cells (rN 1 v sa pe kv la (.slice ma q.length mc) aa) 259 (0,0)):=hN;have aw:=hM.1;have af:=hid ah;have aB:=hid ar;have ao:=hid ab;have aN:=hid hR;have aC:=hid ag;have aH:=hid ay;have aF:=hid aw;clear al ap aj hs an hR ag ah ar ab hN ay aw am hP h1 h2 hM aG aE az ax;go_enter Tryz.func162,Tryz.ntmps162
 go_wp2_with fail
 refine af.out.mono ?_;rintro e w2 ⟨rfl,ak⟩;have X:=hid (Qh (by decide) ao.out);have ai:=ak.size;have av:=hid ak;clear ak;go_upto_region 2 with((with_reducible show wpList _ _ _ (Oper.mk none (Op.store 257 _ _) _ _ _ _::_) _ _);refine wpList_store_row rfl 257 _ _ rfl w2.heap.size (qj .u64 (qN ST)) rfl rfl 257 _ (Wn _ _) (by rw[qg,X.out.1];kernel_rfl) (by rw[qg,X.out.1];rfl) qA ?_)
 refine qm ?_;intro S I;obtain⟨b3,ae⟩:=Ex w2.heap.size;have m3:S.heap[b3]? =some (.cells (qj .u64 (qN ST)) 257 (0,0)):=by rw[I,<-ae];exact setRow_heap _ _ _ _ _ _ (Wn _ _)
 have Y:Below b0 w S:=by rw[I,<-Z];exact below_setRow (av.out.alloc ai _) ai _
 have mn:S.heap[G]? =some (.cells (rN 1 v sa pe kv la (.slice ma q.length mc) aa) 259 (0,0)):=(Y.block G aO).trans aH.out;rw[ae];have aQ:b0<=b3:=by omega
 have aW:b3<S.heap.size:=(Ai m3).1;have bf:G<S.heap.size:=by omega
 have bc:S.cell? ⟨G,33,none⟩=some (.slice ma q.length mc):=qd mn 33;have M3:=hid m3;have MN:=hid mn;have ad:=hid Y;clear I ae m3 mn Y av ai af;have aY:(s:Int)<=q.length:=by omega
 have ac:((q.length:Int) - s)=((q.length - s:Nat):Int):=by omega
 have aI:IntKind.u64.wrap ((q.length:Int) - s)=((q.length - s:Nat):Int):=by rw[ac];exact u64_wrap_id _ (by omega) (by omega)
 have aZ:=hid ac;clear ac;go_wp2_with fail
 refine(jZ s (q.length - s) (by omega) _).mono ?_;rintro e w4 ⟨rfl,hw⟩;rw[hw];clear hw;rw[show s+(q.length - s)=q.length by omega];clear aI;go_upto_region 3 with(fail)
 refine qE (n:=29) (w0:=S) (B:=S.heap.size) [.z 29 G 0,.z 30 G 0,.z 31 G 0,.v 32 (.int .i64 1),.z 33 G 0,.z 34 G 0,.z 35 G 0,.v 36 (.int .i64 1),.v 37 (.agg (qj .u64 (qN ST))),.z 38 G 0,.z 39 G 0,.z 40 G 33,.v 41 (.slice ma q.length mc),.v 42 (.int .i64 s),.z 43 G 0,.z 44 G 0,.z 45 G 0,.v 46 (.int .i64 1),.v 47 (.int .i64 128),.p 48 (fun u W=>W.ownsRow S.heap.size 5 1 u 128 ((QI 128 ((q.drop s).take 128)).map qp)),.v 49 (.int .u64 (q.length:Nat)),.v 50 (.int .u64 0),.z 51 G 0,.z 52 G 0,.z 53 G 13,.v 54 (.bool la),.v 55 (.agg (qj .u64 (qN R))),.p 56 (fun u W=>W.ownsRow S.heap.size 5 1 u 64 ((qQ 8 (qN R) 8).map qp)),.p 2 (fun u W=>W.ownsRow S.heap.size 5 1 u 64 ((qQ 8 (qN R) 8).map qp))] (by exact⟨(fun _ _ _ h U=>qi h (fun g _ hg=>U.block g hg)),(fun _ _ _ h U=>qi h (fun g _ hg=>U.block g hg)),(fun _ _ _ h U=>qi h (fun g _ hg=>U.block g hg)),trivial⟩) Br.drew Nl ?_ ?_
 ·repeat' (with_reducible first|exact qz|refine qx ?_ ?_)
  all_goals try
   intro A x W r I J o D K O;have a0:=r.2 0 (by decide);conv at a0=>rhs;whnf
   have a6:=r.2 6 (by decide);conv at a6=>rhs;whnf
   have a4:=r.2 4 (by decide);conv at a4=>rhs;whnf
   have a5:=r.2 5 (by decide);conv at a5=>rhs;whnf
   simp only[QS,yc]at D;clear o r;go_simp
   exact O _ _ BR rfl
  ·intro A x W r I J o _ K O;have aX:=gv r o 2 31;clear o r;have V:=qf MN.out I;have c0:W.cell? ⟨G,0,none⟩=some (.int .i64 1):=qd V 0;go_simp
   exact O _ _ BR rfl
  ·intro A x W r I J o _ K O;have aU:=gv r o 6 35;clear o r;have V:=qf MN.out I;have c0:W.cell? ⟨G,0,none⟩=some (.int .i64 1):=qd V 0;go_simp
   exact O _ _ BR rfl
  ·intro A x W r I J o _ K O;have a3:=r.2 3 (by decide);conv at a3=>rhs;whnf
   clear o r;have V:=qf M3.out I;refine wp_load_row 257 _ rfl b3 a3 _ _ _ _ V Tryz.underlying257 rfl (by rw[qg,X.out.1];kernel_rfl) (O _ _ Br rfl)
  ·intro A x W r I J o _ K O;have aV:=gv r o 11 40;clear o r;have V:=qf MN.out I;have c0:W.cell? ⟨G,33,none⟩=some (.slice ma q.length mc):=qd V 33;go_simp
   exact O _ _ BR rfl
  ·intro A x W r I J o _ K O;have ba:=gv r o 16 45;clear o r;have V:=qf MN.out I;have c0:W.cell? ⟨G,0,none⟩=some (.int .i64 1):=qd V 0;go_simp
   exact O _ _ BR rfl
  ·intro A x W r I J o _ K O;have bh:=gv r o 17 46;clear o r;go_simp
   refine(zz true _).mono ?_;rintro e w' ⟨rfl,hw⟩;exact O _ _ (by rw[hw];exact Below.refl _ _) rfl
  ·intro A x W r I J o _ K O;have bg:=gv r o 12 41;have bj:=gv r o 13 42;have bk:=gv r o 18 47;clear o r;go_simp
   refine(jY q _ s 128 W (aB.out W (ad.out.trans (I.mono (by omega)))) (by decide) (by omega) au).mono ?_;rintro e w' ⟨u,rfl,ho,U⟩;exact O _ _ U (ownsRow_le ho J)
  ·intro A x W r I J o _ K O;have bd:=gv r o 24 53;clear o r;have V:=qf MN.out I;have c0:W.cell? ⟨G,13,none⟩=some (.bool la):=qd V 13;go_simp
   exact O _ _ BR rfl
  ·intro A x W r I J o _ K O;have aT:=gv r o 7 36;have a7:=gv r o 8 37;have aP:(fun u W=>W.ownsRow S.heap.size 5 1 u 128 ((QI 128 ((q.drop s).take 128)).map qp)) (x 48) W:=o ⟨19,.data⟩ (by simp) rfl _ rfl;have a9:A.tmps.getD 48 undef=x 48:=r.1 48 (by decide);have aS:=gv r o 20 49;have aR:=gv r o 21 50;have bi:=gv r o 25 54;clear o r;have aM:=yy (n:=128) (zs:=(q.drop s).take 128) (fun z hz=>aF.out z (List.mem_of_mem_drop (List.mem_of_mem_take hz)));go_simp
   refine(qb1 ST (QI 128 ((q.drop s).take 128)) ao.out _ q.length (by omega) true la W (yj aP) aM (QP (List.length_take_le _ _))).mono ?_;rintro e w' ⟨rfl,U⟩;rw[aN.out];exact O _ _ U rfl
  ·intro A x W r I J o _ K O;have a8:=gv r o 3 32;have be:=gv r o 26 55;clear o r;go_simp
   refine(qa6 true (qN R) (Qh (by decide) aC.out) _).mono ?_;rintro e w' ⟨u,rfl,ho,U⟩;exact O _ _ U (ownsRow_le ho J)
  ·intro A x W r I J o _ K O;have aL:(fun u W=>W.ownsRow S.heap.size 5 1 u 64 ((qQ 8 (qN R) 8).map qp)) (x 56) W:=o ⟨27,.data⟩ (by simp) rfl _ rfl;have aK:A.tmps.getD 56 undef=x 56:=r.1 56 (by decide);clear o r;go_simp
   exact O _ _ Br (aK▸aL)
 intro x W I J aD;obtain⟨aA,aq,e2, -⟩:=aD;change (fun u W=>W.ownsRow S.heap.size 5 1 u 128 ((QI 128 ((q.drop s).take 128)).map qp)) (x 48) W at aA
 change (fun u W=>W.ownsRow S.heap.size 5 1 u 64 ((qQ 8 (qN R) 8).map qp)) (x 56) W at aq
 change (fun u W=>W.ownsRow S.heap.size 5 1 u 64 ((qQ 8 (qN R) 8).map qp)) (x 2) W at e2
 refine qw ?_;simp only[QG,Act.put,Ls];have E2:=hid (ownsRow_le e2 (show w.heap.size<=S.heap.size by omega));have aJ:=hid (ad.out.trans (I.mono (by omega)));clear aA aq e2 I J;go_wp2
 go_ret
 exact⟨_,rfl,E2.out,by rw[Z];exact aJ.out⟩
theorem qdT (v:Nat->Nat)(z1 z2 q:List Int)(sa pe kv mv:Value)(la:Bool)(aa:Int)(G:Nat)(w:World)(hN:YD false w G v sa pe kv la mv aa)(hP:ParOk false v)(h1:Hold w sa z1)(h2:Hold w pe z2)(az:z1.length<=8)(ax:z2.length<=8)(hM:Hold w mv q)(au:(q.length:Int)<=281474976710656):
  Calls Tryz.prog 162 #[.pointer (some ⟨G,0,none⟩)] w fun e w'=> ∃u,e= .returned u/\w'.ownsRow w.heap.size 5 1 u 32 ((Zc false (h0Z false (QV false v z1 z2)) q la).map qp)/\Below w.heap.size w w':=by
 obtain⟨b0,Z⟩:=Ex w.heap.size;have ah:=qbq v z1 z2 q sa pe kv mv la aa G w hN hP h1 h2 az ax hM au;obtain⟨ma,mc,rfl,aG,aE⟩:=hM.slice;have aO:G<b0:=by rw[<-Z];exact(Ai hN).1
 have ar:=fun(W:World) (U:Below b0 w W)=>hM.below (Z▸U)
 have am:=Q4 false (QV false v z1 z2);generalize h0Z false (QV false v z1 z2)=H0 at*;have ab:=Yr false am q (nbk 64 q.length);have an:=YF (n:=64) (by decide) q.length;have al:Zc false H0 q la=qQ 4 (yR false (stZ false H0 q (nbk 64 q.length)) (QI 64 ((q.drop (64*nbk 64 q.length)).take 64)) (q.length:Int) true la) 8:=rfl;rw[al];obtain⟨ST,aj⟩:=Ex (stZ false H0 q (nbk 64 q.length));obtain⟨s,hs⟩:=Ex (64*nbk 64 q.length);rw[aj,hs]at ah⊢;rw[aj]at ab;rw[hs]at an;obtain⟨R,hR⟩:=Ex (yR false ST (QI 64 ((q.drop s).take 64)) (q.length:Int) true la);have ag:Words 32 8 R:=by rw[<-hR];exact Q1 false ab _ _ _ _
 rw[hR];have ap:qQ 4 R 8=qQ 4 (qN R) 8:=Z3 4 8 (fun j hj=>(qbz ag.1 hj).symm);rw[ap];have bb:s<=q.length:=an.1;have ay:w.heap[G]? =some (.cells (rN 2 v sa pe kv la (.slice ma q.length mc) aa) 259 (0,0)):=hN;have aw:=hM.1;have af:=hid ah;have aB:=hid ar;have ao:=hid ab;have aN:=hid hR;have aC:=hid ag;have aH:=hid ay;have aF:=hid aw;clear al ap aj hs an hR ag ah ar ab hN ay aw am hP h1 h2 hM aG aE az ax;go_enter Tryz.func162,Tryz.ntmps162
 go_wp2_with fail
 refine af.out.mono ?_;rintro e w2 ⟨rfl,ak⟩;have X:=hid (Qh (by decide) ao.out);have ai:=ak.size;have av:=hid ak;clear ak;go_upto_region 2 with((with_reducible show wpList _ _ _ (Oper.mk none (Op.store 257 _ _) _ _ _ _::_) _ _);refine wpList_store_row rfl 257 _ _ rfl w2.heap.size (qj .u64 (qN ST)) rfl rfl 257 _ (Wn _ _) (by rw[qg,X.out.1];kernel_rfl) (by rw[qg,X.out.1];rfl) qA ?_)
 refine qm ?_;intro S I;obtain⟨b3,ae⟩:=Ex w2.heap.size;have m3:S.heap[b3]? =some (.cells (qj .u64 (qN ST)) 257 (0,0)):=by rw[I,<-ae];exact setRow_heap _ _ _ _ _ _ (Wn _ _)
 have Y:Below b0 w S:=by rw[I,<-Z];exact below_setRow (av.out.alloc ai _) ai _
 have mn:S.heap[G]? =some (.cells (rN 2 v sa pe kv la (.slice ma q.length mc) aa) 259 (0,0)):=(Y.block G aO).trans aH.out;rw[ae];have aQ:b0<=b3:=by omega
 have aW:b3<S.heap.size:=(Ai m3).1;have bf:G<S.heap.size:=by omega
 have bc:S.cell? ⟨G,33,none⟩=some (.slice ma q.length mc):=qd mn 33;have M3:=hid m3;have MN:=hid mn;have ad:=hid Y;clear I ae m3 mn Y av ai af;have aY:(s:Int)<=q.length:=by omega
 have ac:((q.length:Int) - s)=((q.length - s:Nat):Int):=by omega
 have aI:IntKind.u64.wrap ((q.length:Int) - s)=((q.length - s:Nat):Int):=by rw[ac];exact u64_wrap_id _ (by omega) (by omega)
 have aZ:=hid ac;clear ac;go_wp2_with fail
 refine(jZ s (q.length - s) (by omega) _).mono ?_;rintro e w4 ⟨rfl,hw⟩;rw[hw];clear hw;rw[show s+(q.length - s)=q.length by omega];clear aI;go_upto_region 3 with(fail)
 refine qE (n:=29) (w0:=S) (B:=S.heap.size) [.z 29 G 0,.z 30 G 0,.z 31 G 0,.v 32 (.int .i64 2),.z 33 G 0,.z 34 G 0,.z 35 G 0,.v 36 (.int .i64 2),.v 37 (.agg (qj .u64 (qN ST))),.z 38 G 0,.z 39 G 0,.z 40 G 33,.v 41 (.slice ma q.length mc),.v 42 (.int .i64 s),.z 43 G 0,.z 44 G 0,.z 45 G 0,.v 46 (.int .i64 2),.v 47 (.int .i64 64),.p 48 (fun u W=>W.ownsRow S.heap.size 5 1 u 64 ((QI 64 ((q.drop s).take 64)).map qp)),.v 49 (.int .u64 (q.length:Nat)),.v 50 (.int .u64 0),.z 51 G 0,.z 52 G 0,.z 53 G 13,.v 54 (.bool la),.v 55 (.agg (qj .u64 (qN R))),.p 56 (fun u W=>W.ownsRow S.heap.size 5 1 u 32 ((qQ 4 (qN R) 8).map qp)),.p 2 (fun u W=>W.ownsRow S.heap.size 5 1 u 32 ((qQ 4 (qN R) 8).map qp))] (by exact⟨(fun _ _ _ h U=>qi h (fun g _ hg=>U.block g hg)),(fun _ _ _ h U=>qi h (fun g _ hg=>U.block g hg)),(fun _ _ _ h U=>qi h (fun g _ hg=>U.block g hg)),trivial⟩) Br.drew Nl ?_ ?_
 ·repeat' (with_reducible first|exact qz|refine qx ?_ ?_)
  all_goals try
   intro A x W r I J o D K O;have a0:=r.2 0 (by decide);conv at a0=>rhs;whnf
   have a6:=r.2 6 (by decide);conv at a6=>rhs;whnf
   have a4:=r.2 4 (by decide);conv at a4=>rhs;whnf
   have a5:=r.2 5 (by decide);conv at a5=>rhs;whnf
   simp only[QS,yc]at D;clear o r;go_simp
   exact O _ _ BR rfl
  ·intro A x W r I J o _ K O;have aX:=gv r o 2 31;clear o r;have V:=qf MN.out I;have c0:W.cell? ⟨G,0,none⟩=some (.int .i64 2):=qd V 0;go_simp
   exact O _ _ BR rfl
  ·intro A x W r I J o _ K O;have aU:=gv r o 6 35;clear o r;have V:=qf MN.out I;have c0:W.cell? ⟨G,0,none⟩=some (.int .i64 2):=qd V 0;go_simp
   exact O _ _ BR rfl
  ·intro A x W r I J o _ K O;have a3:=r.2 3 (by decide);conv at a3=>rhs;whnf
   clear o r;have V:=qf M3.out I;refine wp_load_row 257 _ rfl b3 a3 _ _ _ _ V Tryz.underlying257 rfl (by rw[qg,X.out.1];kernel_rfl) (O _ _ Br rfl)
  ·intro A x W r I J o _ K O;have aV:=gv r o 11 40;clear o r;have V:=qf MN.out I;have c0:W.cell? ⟨G,33,none⟩=some (.slice ma q.length mc):=qd V 33;go_simp
   exact O _ _ BR rfl
  ·intro A x W r I J o _ K O;have ba:=gv r o 16 45;clear o r;have V:=qf MN.out I;have c0:W.cell? ⟨G,0,none⟩=some (.int .i64 2):=qd V 0;go_simp
   exact O _ _ BR rfl
  ·intro A x W r I J o _ K O;have bh:=gv r o 17 46;clear o r;go_simp
   refine(zz false _).mono ?_;rintro e w' ⟨rfl,hw⟩;exact O _ _ (by rw[hw];exact Below.refl _ _) rfl
  ·intro A x W r I J o _ K O;have bg:=gv r o 12 41;have bj:=gv r o 13 42;have bk:=gv r o 18 47;clear o r;go_simp
   refine(jY q _ s 64 W (aB.out W (ad.out.trans (I.mono (by omega)))) (by decide) (by omega) au).mono ?_;rintro e w' ⟨u,rfl,ho,U⟩;exact O _ _ U (ownsRow_le ho J)
  ·intro A x W r I J o _ K O;have bd:=gv r o 24 53;clear o r;have V:=qf MN.out I;have c0:W.cell? ⟨G,13,none⟩=some (.bool la):=qd V 13;go_simp
   exact O _ _ BR rfl
  ·intro A x W r I J o _ K O;have aT:=gv r o 7 36;have a7:=gv r o 8 37;have aP:(fun u W=>W.ownsRow S.heap.size 5 1 u 64 ((QI 64 ((q.drop s).take 64)).map qp)) (x 48) W:=o ⟨19,.data⟩ (by simp) rfl _ rfl;have a9:A.tmps.getD 48 undef=x 48:=r.1 48 (by decide);have aS:=gv r o 20 49;have aR:=gv r o 21 50;have bi:=gv r o 25 54;clear o r;have aM:=yy (n:=64) (zs:=(q.drop s).take 64) (fun z hz=>aF.out z (List.mem_of_mem_drop (List.mem_of_mem_take hz)));go_simp
   refine(qa4 ST (QI 64 ((q.drop s).take 64)) ao.out _ q.length (by omega) true la W (yj aP) aM (QP (List.length_take_le _ _))).mono ?_;rintro e w' ⟨rfl,U⟩;rw[aN.out];exact O _ _ U rfl
  ·intro A x W r I J o _ K O;have a8:=gv r o 3 32;have be:=gv r o 26 55;clear o r;go_simp
   refine(qa6 false (qN R) (Qh (by decide) aC.out) _).mono ?_;rintro e w' ⟨u,rfl,ho,U⟩;exact O _ _ U (ownsRow_le ho J)
  ·intro A x W r I J o _ K O;have aL:(fun u W=>W.ownsRow S.heap.size 5 1 u 32 ((qQ 4 (qN R) 8).map qp)) (x 56) W:=o ⟨27,.data⟩ (by simp) rfl _ rfl;have aK:A.tmps.getD 56 undef=x 56:=r.1 56 (by decide);clear o r;go_simp
   exact O _ _ Br (aK▸aL)
 intro x W I J aD;obtain⟨aA,aq,e2, -⟩:=aD;change (fun u W=>W.ownsRow S.heap.size 5 1 u 64 ((QI 64 ((q.drop s).take 64)).map qp)) (x 48) W at aA
 change (fun u W=>W.ownsRow S.heap.size 5 1 u 32 ((qQ 4 (qN R) 8).map qp)) (x 56) W at aq
 change (fun u W=>W.ownsRow S.heap.size 5 1 u 32 ((qQ 4 (qN R) 8).map qp)) (x 2) W at e2
 refine qw ?_;simp only[QG,Act.put,Ls];have E2:=hid (ownsRow_le e2 (show w.heap.size<=S.heap.size by omega));have aJ:=hid (ad.out.trans (I.mono (by omega)));clear aA aq e2 I J;go_wp2
 go_ret
 exact⟨_,rfl,E2.out,by rw[Z];exact aJ.out⟩
theorem qis (big:Bool)(zs:List Int):(zf big zs).length<=sB big:=by
 unfold zf Yz;simp only[List.length_take];omega
theorem qiP (big:Bool)(zs:List Int):(zA big zs).length<=sB big:=by
 unfold zA Yz;simp only[List.length_take];omega
theorem qdI (o: ∀z∈zs,0<=z/\z<=255): ∀z∈zf big zs,0<=z/\z<=255:=fun z h=>o z (List.mem_of_mem_drop (List.mem_of_mem_take (List.mem_of_mem_take h)))
theorem qdZ (o: ∀z∈zs,0<=z/\z<=255): ∀z∈zA big zs,0<=z/\z<=255:=fun z h=>o z (List.mem_of_mem_drop (List.mem_of_mem_take (List.mem_of_mem_take h)))
theorem qhL (G: ∀z∈zs,0<=z/\z<=255)(h:okD big false zs):ParOk big (YW big false zs):=by
 obtain⟨I,hm,hx,k1,Z,V,k9⟩:=h;have H:=fun f r q=>qY (big:=big) (ext:=false) G I (f:=f) r q
 have J: ∀f,1<=f->f<=9->((YW big false zs f:Nat):Int)<=yp big false zs f:=fun f r q=>by
  have:=H f r q
  unfold YW;split<;>omega
 have e:=fun f r q D=>qag (big:=big) (ext:=false) G I (f:=f) r q D
 have Y:=e 1 (by omega) (by omega) (by omega);have e2:=e 2 (by omega) (by omega) (by omega);have e4:=e 4 (by omega) (by omega) (by omega);have e9:=e 9 (by omega) (by omega) (by omega);have X:qO zs (atB big 1) (szE big false 1)=qo zs 0:=by cases big<;>simp[szE,szB,atB,zQ]
 have s2:qO zs (atB big 2) (szE big false 2)=qo zs 1:=by cases big<;>simp[szE,szB,atB,zQ]
 have s4:qO zs (atB big 4) (szE big false 4)=qo zs 3:=by cases big<;>simp[szE,szB,atB,zQ]
 have U:qO zs (atB big 9) (szE big false 9)=qo zs (atB big 9):=by cases big<;>simp[szE,szB,atB,zQ]
 have B: ∀f n,1<=f->f<=9->szE big false f<=n->((YW big false zs f:Nat):Int)<2^(8*n):=fun f n O S hs=>by
  have r:=(H f O S).2;have q:=J f O S;have D:(2:Int)^(8*szE big false f)<=2^(8*n):=by exact_mod_cast Nat.pow_le_pow_right (by decide:0<2) (Nat.mul_le_mul_left 8 hs)
  omega
 refine⟨⟨?_,?_,⟨by omega,?_⟩,⟨?_,?_⟩,⟨by omega,fun hb=>?_⟩,⟨by omega,?_⟩,?_⟩,?_,?_,rfl⟩
 ·rw[Y,X];exact k1
 ·rw[e2,s2];exact Z
 ·have:=B 3 1 (by omega) (by omega) (by cases big<;>decide);omega
 ·rw[e4,s4];exact V rfl
 ·have:=B 4 1 (by omega) (by omega) (by cases big<;>decide);omega
 ·have:=B 6 6 (by omega) (by omega) (by subst hb;decide);omega
 ·have:=B 8 1 (by omega) (by omega) (by cases big<;>decide);omega
 ·rw[e9,U];exact k9
 ·have:=B 5 4 (by omega) (by omega) (by cases big<;>decide);omega
 ·have:=B 6 8 (by omega) (by omega) (by cases big<;>decide);omega
theorem qgc (big:Bool)(v:Nat->Nat)(z1 z2 o:List Int)(D r U G:Value)(la:Bool)(q:Int)(I:Nat)(w:World)(Z:YD big w I v D r U la G q)(V:ParOk big v)(h1:Hold w D z1)(X:Hold w r z2)(J:z1.length<=sB big)(O:z2.length<=sB big)(Y:Hold w G o)(S:(o.length:Int)<=281474976710656):
  Calls Tryz.prog 162 #[.pointer (some ⟨I,0,none⟩)] w fun e w'=> ∃u,e= .returned u/\w'.ownsRow w.heap.size 5 1 u (mB big) ((Zc big (h0Z big (QV big v z1 z2)) o la).map qp)/\Below w.heap.size w w':=by
 cases big
 ·exact qdT v z1 z2 o D r U G la q I w Z V h1 X J O Y S
 ·exact qeP v z1 z2 o D r U G la q I w Z V h1 X J O Y S
def qjv (big:Bool)(v:Nat->Nat)(z1 z2 kz:List Int)(la:Bool)(o:Int)(ds:List Int)(w:World)(e:Ending)(w':World):Prop:=
 (∃u,e= .returned (.tuple #[u,.int .i64 0])/\Fresh w.heap.size w' u ((Zc big (h0Z big (QV big v z1 z2)) (yH (bB big) kz++ds) la).take o.toNat))/\Below w.heap.size w w'
theorem qgD {base g c m:Nat}(h:W.ownsRow base 5 1 (.slice (some ⟨g,0,none⟩) zs.length c) zs.length (zs.map qp))(q:m<=zs.length):Fresh base W (.slice (some ⟨g,0,none⟩) m c) (zs.take m):=by
 obtain⟨o,D,J,G,r,O,I⟩:=zm h;have e:(zs.take m).length=m:=by simp[List.length_take,Nat.min_eq_left q]
 refine .inr ⟨g,c,o,by rw[e],r,D,by omega,by omega,by omega,?_⟩;rw[e,List.map_take,<-G,List.take_take,Nat.min_eq_left q]
theorem qjm (big:Bool):mB big<=bB big/\bB big<=128:=by cases big<;>decide
theorem qb3 (big:Bool)(v:Nat->Nat)(z1 z2 kz ds:List Int)(la:Bool)(o:Int)(sa pe Z dv:Value)(w:World)(hP:ParOk big v)(h1:Hold w sa z1)(h2:Hold w pe z2)(aF:z1.length<=sB big)(az:z2.length<=sB big)(hK:Hold w Z kz)(aq:kz.length<=mB big)(hk:kz.length=0\/kz.length=v 2)(hD:Hold w dv ds)(an:(ds.length:Int)<=140737488355200)(ag: ¬(o<1\/(mB big:Nat)<o)):
  Calls Tryz.prog 129 #[.int .i64 (kB big),parN v sa pe,Z,.bool la,.int .i64 o,dv] w fun e w'=>qjv big v z1 z2 kz la o ds w e w':=by
 obtain⟨J,D⟩:=Ex w.heap.size;obtain⟨a1,c1,rfl,aL,aO⟩:=h1.slice;obtain⟨a2,c2,rfl,aK,aM⟩:=h2.slice;have ac:Below J w (w.alloc (.cells #[.int .i64 (v 1),.int .i64 (v 2),.int .i64 (v 3),.int .i64 (v 4),.int .u32 (v 5),.int .u64 (v 6),.int .u32 (v 7),.int .i64 (v 8),.int .i64 (v 9),.slice a1 z1.length c1,.slice a2 z2.length c2] 179)):=by rw[<-D];exact Br.alloc Nl _
 have V:=Wn w (.cells #[.int .i64 (v 1),.int .i64 (v 2),.int .i64 (v 3),.int .i64 (v 4),.int .u32 (v 5),.int .u64 (v 6),.int .u32 (v 7),.int .i64 (v 8),.int .i64 (v 9),.slice a1 z1.length c1,.slice a2 z2.length c2] 179);rw[D]at V;have aJ:=(Ai V).1;have aH:=hid hP;have a7:=hid h1;have a6:=hid h2;have au:=hid hK;have X:=hid hD;have aa:=hid aq;have aP:=hid hk;have aj:=hid an;have ai:=hid aF;have af:=hid az;clear hP h1 h2 aF az hK aq hk hD an aL aO aK aM;unfold parN parV;go_enter Tryz.func129,Tryz.ntmps129
 go_upto_region 1 with(fail)
 generalize w.alloc (.cells #[.int .i64 (v 1),.int .i64 (v 2),.int .i64 (v 3),.int .i64 (v 4),.int .u32 (v 5),.int .u64 (v 6),.int .u32 (v 7),.int .i64 (v 8),.int .i64 (v 9),.slice a1 z1.length c1,.slice a2 z2.length c2] 179)=wA at*;go_wp2_with ((with_reducible show wpList _ _ _ (Oper.mk _ (Op.load 179 _) _ _ _ _::_) _ _);refine wpList_load_row rfl 179 _ rfl J rfl _ _ _ _ V Tryz.underlying179 rfl (by kernel_rfl) ?_)
 refine(qhD big v a1 a2 z1.length z2.length c1 c2 kz Z wA aH.out ai.out af.out (au.out.below (D▸ac)) aa.out aP.out).mono ?_;rintro e w1 ⟨q,mv,rfl,a5,hN,hO,ad⟩;have aQ:=ad.size;have aC:Below J w w1:=ac.trans (ad.mono (by omega));have bb:q<w1.heap.size:=(Ai hN).1;have av: ∀g,mv.ownBlock=some g->J<g:=fun g hg=>by have:=qb8 hO hg;omega
 have ap:=j7 hO;have HN:=hid hN;have ax:=hid ap;have aE:=hid aC;have am:=hid av;have ba:J<q:=by omega
 clear hN hO ad aC av ap V ac aJ aQ a5 wA;have ab:=hid ag;have a3:decide (o<1)=false:=decide_eq_false (by omega);have aZ:decide ((mB big:Int)<o)=false:=decide_eq_false (by omega);clear ag;have aV:w1.cell? ⟨q,13,none⟩=some (.bool false):=qd HN.out 13;have aU:=frozen_of_row w1 q 13 _ _ HN.out;go_wp2_with fail
 refine(qb4 big _).mono ?_;rintro r Y ⟨rfl,hw⟩;obtain rfl:=hw;go_upto_region 7 with(fail)
 have S:But q Y (Y.setCell ⟨q,13,none⟩ (.bool la)):=(But.refl q Y).set 13 _;have aD:=hid (show YD big (Y.setCell ⟨q,13,none⟩ (.bool la)) q v (.slice a1 z1.length c1) (.slice a2 z2.length c2) Z la mv 0 from qgg HN.out);have al:=hid (YI ax.out S HN.out (by decide));have U:=hid (show Below J w (Y.setCell ⟨q,13,none⟩ (.bool la)) from aE.out.trans (S.below (by omega) (by omega)));obtain⟨m,hm⟩: ∃m:Nat,o=(m:Int):=⟨o.toNat,by have:=ab.out;omega⟩;subst hm;have O:m<=mB big:=by have:=ab.out;omega
 have aR:=hid O;clear HN ax aE S aV aU a3 aZ O;generalize (Y.setCell ⟨q,13,none⟩ (.bool la))=W4 at*;go_wp2_with fail
 have a9:=zC (n:=bB big) (key:=kz) (by have:=qjm big;have:=aa.out;omega);have ae:((yH (bB big) kz++ds).length:Int)<=281474976710656:=by have:=qjm big;have:=aj.out;rw[List.length_append];omega
 have aA: ∀z∈yH (bB big) kz++ds,0<=z/\z<=255:=fun z hz=>by
  rcases List.mem_append.1 hz with hz|hz
  ·exact zD au.out.1 z hz
  ·exact X.out.1 z hz
 have aN:=hid ae;have aX:=hid aA;refine(qdO big v (yH (bB big) kz) ds (.slice a1 z1.length c1) (.slice a2 z2.length c2) Z mv dv la 0 q W4 aD.out al.out (X.out.below (D▸U.out)) (fun ar b hb=>⟨fun e=>by have:=Y7 X.out ar hb;omega,fun e=>by have:=Y7 X.out ar hb;have:=am.out b e;omega⟩) (by have:=qjm big;have:=aj.out;omega)).mono ?_;rintro e w5 ⟨rfl,⟨a8,aI,ay,ak⟩,ao⟩;clear a9 ae aA;have I:=hid (show Below J w w5 from U.out.trans (ao.below (by have:=U.out.size;omega) (fun k hk=>⟨by omega,fun e=>by have:=am.out k e;omega⟩)));have aS:=hid ay;have a4:=hid ak;clear ay ak ao aD al U;go_wp2_with fail
 refine(qgc big v z1 z2 (yH (bB big) kz++ds) (.slice a1 z1.length c1) (.slice a2 z2.length c2) Z a8 la aI q w5 aS.out aH.out (a7.out.below (D▸I.out)) (a6.out.below (D▸I.out)) ai.out af.out (Qf a4.out aX.out) aN.out).mono ?_;rintro e w6 ⟨u,rfl,G,aw⟩;have aY:=hid (show Below J w w6 from I.out.trans (aw.mono (by have:=I.out.size;omega)));have aG:w.heap.size<=w5.heap.size:=I.out.size;obtain⟨u1,u2,u3,rfl⟩:=qr G;obtain rfl:u2=mB big:=yJ G;obtain⟨gg,rfl⟩:=jE (j7 G) (by cases big<;>decide);obtain⟨cu, -, -, -, -,bc,aW⟩:=zm G;have ah:(Zc big (h0Z big (QV big v z1 z2)) (yH (bB big) kz++ds) la).length=mB big:=by have:=G.1;simpa using this
 have bf:(u3:Int)<=9223372036854775807:=by unfold maxLen at aW;omega
 have O:=aR.out;have bd:(m:Int)<=u3:=by omega
 have be:(mB big:Int)<=(u3:Int):=by omega
 have aB:=(qgD (m:=m) (zs:=Zc big (h0Z big (QV big v z1 z2)) (yH (bB big) kz++ds) la) (c:=u3) (by rw[ah];exact G) (by rw[ah];exact O)).le aG;have aT:=hid aB;clear aB G aw ah aG O;go_wp2_with fail
 go_ret2
 exact⟨⟨_,rfl,aT.out⟩,by rw[D];exact aY.out⟩
theorem qfx (q: ∀z∈zs,0<=z/\z<=255)(o:zs.length=mB big):((YW big ext zs 2:Nat):Int)=qo zs 1:=by
 rw[qag (big:=big) (ext:=ext) q o (f:=2) (by omega) (by omega) (by omega)]
 cases big<;>cases ext<;>simp[szE,szB,atB,zQ]
theorem qjY {o:List Int}(D: ∀z∈o,0<=z/\z<=255)(r:o.length=mB big)(q:YN o kz=false):kz.length=0\/kz.length=YW big ext o 2:=by
 have G:=qfx (ext:=ext) D r;unfold YN at q;have I:=of_decide_eq_false q;omega
theorem qfB {q ds:List Int}{o:Int}{w w0:World}{e:Ending}{w':World}(I: ∀z∈q,0<=z/\z<=255)(D:okD big false q)(r:Below w0.heap.size w0 w)(h:qjv big (YW big false q) (zf big q) (zA big q) kz la o ds w e w'):
  ∃u,e= .returned (.tuple #[u,.int .i64 0])/\qcC big q kz la o ds w0 (.returned (.tuple #[u,.int .i64 0])) w':=by
 obtain⟨⟨u,rfl,h⟩,G⟩:=h;rw[qjl I D]at h;exact⟨u,rfl,⟨u,rfl,h.le r.size⟩,r.trans (G.mono r.size)⟩
theorem qge (big:Bool)(r kz ds:List Int)(la:Bool)(o:Int)(I kv J:Value)(w:World)(hB:Hold w I r)(hK:Hold w kv kz)(hD:Hold w J ds)(aj:(ds.length:Int)<=140737488355200)(ai:okD big false r)(ag:YN r kz=false)(ho: ¬(o<1\/(mB big:Nat)<o)):
  Calls Tryz.prog 89 #[.agg (Yf (kB big) I kv la o J)] w fun e w'=>qcC big r kz la o ds w e w':=by
 obtain⟨D,O⟩:=Ex w.heap.size;obtain⟨X,S,rfl,aD,aC⟩:=hK.slice;have Y:Below D w (w.alloc (.cells #[.int .i64 (kB big),I,.slice X kz.length S,.bool la,.int .i64 o,J] 73)):=by rw[<-O];exact Br.alloc Nl _
 have G:=Wn w (.cells #[.int .i64 (kB big),I,.slice X kz.length S,.bool la,.int .i64 o,J] 73);rw[O]at G;have ab:=(Ai G).1;have hq:((kB big != 1)&&(kB big != 2))=false:=by cases big<;>rfl
 obtain⟨q0,au⟩: ∃q,(kB big != 1)=q:=⟨_,rfl⟩;obtain⟨q1,ap⟩: ∃q,(kB big != 2)=q:=⟨_,rfl⟩;rw[au,ap]at hq;obtain⟨kk,af⟩:=Ex (kB big);have am:=hid af;have ac:=hid hB;have aI:=hid hK;have aL:=hid hD;have aE:=hid aj;have HO:=hid ai;have ae:=hid ag;have aN:=hid ho;clear hB hK hD aj aD aC ai ag ho;show Calls _ _ #[.agg #[.int .i64 (kB big),I,.slice X kz.length S,.bool la,.int .i64 o,J]] _ _
 rw[af]at Y G ab au ap⊢;clear af;go_enter Tryz.func89,Tryz.ntmps89
 go_upto_region 1 with(fail)
 generalize w.alloc (.cells #[.int .i64 kk,I,.slice X kz.length S,.bool la,.int .i64 o,J] 73)=wA at*;have c0:wA.cell? ⟨D,0,none⟩=some (.int .i64 kk):=qd G 0;have c1:wA.cell? ⟨D,1,none⟩=some I:=qd G 1
 cases q0<;>cases q1<;>first|(exfalso;cases hq;done)|skip
 all_goals
  clear hq;go_wp2_with fail
  refine(show Calls Tryz.prog 128 #[.int .i64 kk,I] wA _ from am.out▸qcR big r I wA (ac.out.below (O▸Y)) HO.out).mono ?_;rintro e w1 ⟨⟨cs,rfl,aB⟩,Z⟩;have aF:=Z.size;have ah:=qf G Z;have av:Below D w w1:=Y.trans (Z.mono (by omega));have V:=hid aB;have aw:=hid av;have aA:=hid ah;clear aB av ah Z Y c0 c1 G;go_upto_region 7 with((with_reducible show wpList _ _ _ (Oper.mk none (Op.store 179 (Operand.tmp 5) _) _ _ _ _::_) _ _);refine wpList_store_row rfl 179 _ _ rfl w1.heap.size cs rfl rfl 179 _ (Wn _ _) (by rw[V.out.1];kernel_rfl) (by rw[V.out.1];rfl) V.out.2.1 ?_)
  refine qm ?_;intro W hW;obtain⟨p5,ad⟩:=Ex w1.heap.size;have r5:W.heap[p5]? =some (.cells cs 179 (0,0)):=by rw[hW,<-ad];exact setRow_heap _ _ _ _ _ _ (Wn _ _)
  have r0:W.heap[D]? =some (.cells #[.int .i64 kk,I,.slice X kz.length S,.bool la,.int .i64 o,J] 73 (0,0)):=by rw[hW];exact(setRow_other (w1.alloc _) _ _ _ (by omega)).trans ((Bh _ _ _ (by omega)).trans aA.out)
  have an:Below D w W:=by rw[hW];exact below_setRow (aw.out.alloc (by omega) _) (by omega) _
  have ay:DecIs big r D W cs:=V.out.mono (by omega) (fun g hg aK=>by rw[hW];exact(setRow_other (w1.alloc _) _ _ _ (by omega)).trans (Bh _ _ _ aK));rw[ad];have aO:D<p5:=by omega
  have aQ:p5<W.heap.size:=(Ai r5).1;clear hW ad aA aw V aF ab;have R5:=hid r5;have R0:=hid r0;have aa:=hid an;have ax:=hid ay;clear r5 r0 an ay;obtain⟨-, -,sa,pe,U,az,ar⟩:=ax.out;clear ax;obtain⟨v,hv⟩:=Ex (YW big false r);rw[hv]at U;unfold parN parV at U;injection U with U
  subst U;have hz:=ac.out.1;have aJ:=hid (Qf az (qdI hz));have aH:=hid (Qf ar (qdZ hz));have HV:=hid hv;clear az ar hv;have c5:W.cell? ⟨p5,1,none⟩=some (.int .i64 (v 2)):=qd R5.out 1;have c2:W.cell? ⟨D,2,none⟩=some (.slice X kz.length S):=qd R0.out 2;have aP:D<W.heap.size:=(Ai R0.out).1;have ak:((v 2:Nat):Int)=qo r 1:=by rw[<-HV.out];exact qfx hz HO.out.1
  obtain⟨q2,aG⟩: ∃q,((kz.length:Int) != 0)=q:=⟨_,rfl⟩;obtain⟨q3,aM⟩: ∃q,((kz.length:Int) != (v 2:Nat))=q:=⟨_,rfl⟩;have aq:YN r kz=(q2&&q3):=by rw[<-aG,<-aM,ak];exact qaF r kz
  have al:=hid aq;clear hz ak aq;have ao:(q2&&q3)=false:=by rw[<-al.out];exact ae.out
  clear al;have c3:W.cell? ⟨D,3,none⟩=some (.bool la):=qd R0.out 3;have c4:W.cell? ⟨D,4,none⟩=some (.int .i64 o):=qd R0.out 4;have c6:W.cell? ⟨D,5,none⟩=some J:=qd R0.out 5
  cases q2<;>cases q3<;>first|(exfalso;cases ao;done)|skip
  all_goals
   clear ao;go_wp2_with ((with_reducible show wpList _ _ _ (Oper.mk _ (Op.load 179 _) _ _ _ _::_) _ _);refine wpList_load_row rfl 179 _ rfl p5 rfl _ _ _ _ R5.out Tryz.underlying179 rfl (by kernel_rfl) ?_)
   have HZ:=ac.out.1;refine(show Calls Tryz.prog 129 #[.int .i64 kk,parN v sa pe,.slice X kz.length S,.bool la,.int .i64 o,J] W _ from am.out▸qb3 big v (zf big r) (zA big r) kz ds la o sa pe (.slice X kz.length S) J W (HV.out▸qhL HZ HO.out) aJ.out aH.out (qis big r) (qiP big r) (aI.out.below (O▸aa.out)) (qea HO.out ae.out) (HV.out▸qjY HZ HO.out.1 ae.out) (aL.out.below (O▸aa.out)) aE.out aN.out).mono ?_;intro e w9 hh;obtain⟨u,rfl,hc⟩:=qfB (w0:=w) HZ HO.out (O▸aa.out) (HV.out▸hh);have HC:=hid hc;clear hh hc HZ;go_wp2_with fail
   go_ret2
   exact HC.out
